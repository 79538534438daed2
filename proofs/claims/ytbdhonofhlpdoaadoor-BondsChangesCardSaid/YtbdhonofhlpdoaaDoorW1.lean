/-
  Walks, written by program: each Go function returns what its pure twin says.
-/
import Derived.Test.YtbdhonofhlpdoaaDoorW0
namespace Go.Proofs.YtbdhonofhlpdoaaDoor
namespace V
theorem ok_mac_Tag (F : Nat) (k_1 : Int) (b_2 : (List Int)) (r : Int) (hp : mac_Tag F k_1 b_2 = some r) : Spec Tryd.prog 108 [vi .u64 k_1, vs 0] [.rd 1 R8 b_2] (vi .u64 r) [.gone] := by
 refine Spec.enterM Tryd.func108 rfl Tryd.ntmps108 rfl rfl fun fx => ?_
 refine SC.seq ?_
 refine SC.reg ?_
 refine SL.eff (e_box (E := 25) [ci .u64 k_1] (by kernel_rfl)) rfl (by kernel_rfl) ?_
 refine SL.sim tk 1 [(1, vs 0), (2, vp 1 0)] [] [] [] (by kernel_rfl) ?_
 refine SL.nilThen ?_
 refine SC.seq ?_
 refine SC.reg ?_
 refine SL.sim tk 4 [(1, vs 0), (2, vp 1 0), (7, vi .u64 k_1), (10, vi .u64 (wu64 (len b_2)))] [] [] [] (by kernel_rfl) ?_
 obtain ⟨x_3, e_x_3, hp⟩ := bind_inv hp
 refine SL.eff (e_c Tryd.call114 (ok_block_Mix F k_1 (wu64 (len b_2)) _ e_x_3) [] [vi .u64 k_1, vi .u64 (wu64 (len b_2))] (vi .u64 x_3) (by kernel_rfl) (.inl rfl)) rfl (by kernel_rfl) ?_
 refine SL.eff (e_alloc (E := 22) tk [ci .u64 0] (by kernel_rfl)) rfl (by kernel_rfl) ?_
 refine SL.norm (itsN := [.rd 1 R8 b_2, .blk 25 [ci .u64 k_1], .blk 22 [ci .u64 0]]) (by kernel_rfl) ?_
 refine SL.sim tk 1 [(1, vs 0), (2, vp 1 0), (5, vp 2 0)] [(2, 22, [ci .u64 x_3])] [] [] (by kernel_rfl) ?_
 refine SL.nilThen ?_
 refine SC.seq ?_
 refine SC.seq ?_
 refine SC.reg ?_
 refine SL.sim tk 1 [(2, vp 1 0), (5, vp 2 0), (12, vs 0)] [] [] [] (by kernel_rfl) ?_
 refine SL.eff (e_c Tryd.call115 (ok_mac_groups b_2) [.g 0] [vs 0] (.f 122 [.p 3 0]) (by kernel_rfl) (.inl rfl)) rfl (by kernel_rfl) ?_
 refine SL.nilThen ?_
 obtain ⟨o_4, e_o_4, hp⟩ := bind_inv hp
 refine SC.mk fun a w h => (show A 21 1 fx [(2, vp 1 0), (5, vp 2 0), (13, .f 122 [.p 3 0])] [.gone, .blk 25 [ci .u64 k_1], .blk 22 [ci .u64 x_3], .blk 31 [.s 4], .rd 1 R8 b_2] a w from h.at (js := [.g 0, .g 1, .g 2, .g 3, .g 0]) (by kernel_rfl)).go ?_
 refine SC.range (pl := [14]) (itsE := [.gone, .gone, .blk 22 [ci .u64 o_4], .gone, .gone]) (its2 := [.gone, .gone, .blk 22 [ci .u64 o_4], .gone, .gone]) (envR := [(5, vp 2 0)]) (env2 := [(4, vi .u64 o_4)]) rfl Tryd.call122 Tryd.func122 rfl Tryd.ntmps122 rfl rfl rfl rfl rfl rfl (fun fx l rec hu hx hw hst hpe hpl has hbo hS => ?_) (fun fx => ?_) rfl (fun a w h => ?_)
 · replace hp := e_o_4
   refine SC.r tk [(0, yv l), (1, vp 3 0), (3, vi .i64 0)] [] [] [] (by kernel_rfl) ?_
   refine SC.block ?_
   obtain ⟨o1, hi1, ho1⟩ := bind_inv hp
   clear hp
   refine SC.loop (fun n a w => ∃ (x_6 : Int) (x_7 : Int), iter (fun s => mac_Tag_it_l1 F k_1 b_2 s.1 s.2) n (x_6, x_7) = some o1 ∧ A 39 5 fx [(0, yv l), (1, vp 3 0), (3, vi .i64 x_7)] [.gone, .blk 25 [ci .u64 k_1], .blk 22 [ci .u64 x_6], .blk 31 [.s 4], .rd 1 R8 b_2] a w) F (fun a w h => ⟨x_3, 0, hi1, h.at (js := [.g 0, .g 1, .g 2, .g 3, .g 4]) (by kernel_rfl)⟩) ?_
   rintro n1 a w ⟨x_6, x_7, hi1, h⟩
   obtain ⟨n1, q1, rfl, hp, hs1⟩ := iter_inv hi1
   replace hp : mac_Tag_it_l1 F k_1 b_2 x_6 x_7 = some q1 := hp
   clear hi1
   refine h.go ?_
   refine SC.seq ?_
   refine SC.r tk [(0, yv l), (1, vp 3 0), (3, vi .i64 x_7), (10, vb (decide (x_7 < (len b_2))))] [] [] [] (by kernel_rfl) ?_
   refine SC.if' rfl hp (fun hp => ?_) (fun hp => ?_)
   · refine SC.skipThen ?_
     refine SC.cut (fun a w => ∃ (x_8 : Int), mac_Tag_it_j1 F x_7 x_8 = some q1 ∧ A 39 5 fx [(0, yv l), (1, vp 3 0), (3, vi .i64 x_7)] [.gone, .blk 25 [ci .u64 k_1], .blk 22 [ci .u64 x_8], .blk 31 [.s 4], .rd 1 R8 b_2] a w) ?_ ?_
     · refine SC.block ?_
       refine SC.r tk [(0, yv l), (1, vp 3 0), (3, vi .i64 x_7), (4, vi .u64 0)] [] [] [] (by kernel_rfl) ?_
       refine SC.cut (fun a w => ∃ (x_9 : Int), mac_Tag_it_j2 F k_1 x_6 x_7 x_9 = some q1 ∧ A 39 5 fx [(0, yv l), (1, vp 3 0), (3, vi .i64 x_7), (4, vi .u64 x_9)] [.gone, .blk 25 [ci .u64 k_1], .blk 22 [ci .u64 x_6], .blk 31 [.s 4], .rd 1 R8 b_2] a w) ?_ ?_
       · refine SC.seq ?_
         refine SC.reg ?_
         refine SL.sim tk 7 [(0, yv l), (1, vp 3 0), (3, vi .i64 x_7), (4, vi .u64 0), (13, vs 4), (14, vi .i64 x_7), (19, vi .i64 (imin (w64 (x_7 + 8)) (len b_2)))] [] [] [] (by kernel_rfl) ?_
         obtain ⟨l_12, e_l_12, hp⟩ := bind_inv hp
         refine SL.eff (e_sub (sz := 1) (E := 5) (R := R8) (by_ := 1) (l := b_2) tk rfl (.inl ⟨4, rfl, (by kernel_rfl)⟩) rfl rfl e_l_12 (by kernel_rfl)) rfl (by kernel_rfl) ?_
         refine SL.sim tk 2 [(0, yv l), (1, vp 3 0), (3, vi .i64 x_7), (4, vi .u64 0), (20, vs 5), (21, vi .i64 (len l_12)), (22, vi .i64 0)] [] [] [] (by kernel_rfl) ?_
         refine SL.nilThen ?_
         refine SC.block ?_
         obtain ⟨o2, hi2, ho2⟩ := bind_inv hp
         clear hp
         refine SC.loop (fun n a w => ∃ (x_13 : Int) (x_14 : Int), iter (fun s => mac_Tag_it_l2 F l_12 s.1 s.2) n (x_13, x_14) = some o2 ∧ A 39 5 fx [(0, yv l), (1, vp 3 0), (3, vi .i64 x_7), (4, vi .u64 x_13), (20, vs 5), (21, vi .i64 (len l_12)), (22, vi .i64 x_14)] [.gone, .blk 25 [ci .u64 k_1], .blk 22 [ci .u64 x_6], .blk 31 [.s 4], .rd 1 R8 b_2, .rd 1 R8 l_12] a w) F (fun a w h => ⟨0, 0, hi2, h.at (js := [.g 0, .g 1, .g 2, .g 3, .g 4, .g 5]) (by kernel_rfl)⟩) ?_
         rintro n2 a w ⟨x_13, x_14, hi2, h⟩
         obtain ⟨n2, q2, rfl, hp, hs2⟩ := iter_inv hi2
         replace hp : mac_Tag_it_l2 F l_12 x_13 x_14 = some q2 := hp
         clear hi2
         refine h.go ?_
         refine SC.r tk [(0, yv l), (1, vp 3 0), (3, vi .i64 x_7), (4, vi .u64 x_13), (20, vs 5), (21, vi .i64 (len l_12)), (22, vi .i64 x_14), (23, vb (decide (x_14 < (len l_12))))] [] [] [] (by kernel_rfl) ?_
         refine SC.seq ?_
         refine SC.if' rfl hp (fun hp => ?_) (fun hp => ?_)
         · refine SC.skipThen ?_
           refine SC.seq ?_
           refine SC.block ?_
           obtain ⟨x_15, e_x_15, hp⟩ := bind_inv hp
           refine SC.pre (pre_ix (i := 5) (iv := x_14) (sz := 1) (R := R8) (l := l_12) (by kernel_rfl) rfl e_x_15) ?_
           refine SC.r tk [(0, yv l), (1, vp 3 0), (3, vi .i64 x_7), (4, vi .u64 x_13), (5, vi .i64 x_14), (6, vi .u8 x_15), (20, vs 5), (21, vi .i64 (len l_12)), (22, vi .i64 x_14)] [] [.el 6] [x_14] (by kernel_rfl) ?_
           refine SC.reg ?_
           obtain ⟨x_16, e_x_16, hp⟩ := bind_inv hp
           refine SL.sim tk 8 [(0, yv l), (1, vp 3 0), (3, vi .i64 x_7), (4, vi .u64 (ior .u64 x_13 x_16)), (20, vs 5), (21, vi .i64 (len l_12)), (22, vi .i64 x_14)] [] [.bin .shl .u64 (wu64 x_15) (w64 (8 * x_14)) x_16 e_x_16] [wu64 x_15, w64 (8 * x_14)] (by kernel_rfl) ?_
           refine SL.nilThen ?_
           refine SC.reg ?_
           refine SL.sim tk 2 [(0, yv l), (1, vp 3 0), (3, vi .i64 x_7), (4, vi .u64 (ior .u64 x_13 x_16)), (20, vs 5), (21, vi .i64 (len l_12)), (22, vi .i64 (w64 (x_14 + 1)))] [] [] [] (by kernel_rfl) ?_
           refine SL.nilJ fun a w h => ?_
           exact ⟨n2, Nat.lt_succ_self _, ior .u64 x_13 x_16, w64 (x_14 + 1), next_inv hp hs2, h.at (js := [.g 0, .g 1, .g 2, .g 3, .g 4, .g 5]) (by kernel_rfl)⟩
         · refine SC.exitJ rfl fun a w h => ?_
           have ho := done_inv hp hs2
           replace hp := ho2
           try rw [ho] at hp
           exact ⟨x_13, hp, h.at (js := [.g 0, .g 1, .g 2, .g 3, .g 4]) (by kernel_rfl)⟩
       · rintro a w ⟨x_9, hp, h⟩
         refine h.go ?_
         obtain ⟨o_10, e_o_10, hp⟩ := bind_inv hp
         refine SC.cut (fun a w => A 39 5 fx [(0, yv l), (1, vp 3 0), (3, vi .i64 x_7), (38, vb false)] [.gone, .blk 25 [ci .u64 k_1], .blk 22 [ci .u64 o_10], .blk 31 [.s 4], .rd 1 R8 b_2] a w) ?_ (fun a w h => h.go ?_)
         · refine SC.regI ?_
           refine SLI.cutAt 2 (fun a w => A 39 5 fx [(0, yv l), (1, vp 3 0), (3, vi .i64 x_7), (35, yv l), (36, vi .u64 x_9)] [.gone, .blk 25 [ci .u64 k_1], .blk 22 [ci .u64 x_6], .blk 31 [.s 4], .rd 1 R8 b_2] a w) ?_ rfl (fun a w h => h.goLI ?_)
           · refine SL.sim tk 2 [(0, yv l), (1, vp 3 0), (3, vi .i64 x_7), (35, yv l), (36, vi .u64 x_9)] [] [] [] (by kernel_rfl) ?_
             refine SL.nilJ fun a w h => ?_
             exact h.at (js := [.g 0, .g 1, .g 2, .g 3, .g 4]) (by kernel_rfl)
           · refine SLI.yield (X := Unit) (Pr := fun _ => True) (itsX := fun _ => [.gone, .blk 25 [ci .u64 k_1], .blk 22 [ci .u64 o_10], .blk 31 [.s 4], .rd 1 R8 b_2]) (pl := [14]) (vs := [vi .u64 x_9]) (envA := [(0, yv l), (1, vp 3 0), (3, vi .i64 x_7)]) (envS := [(2, vp 1 0), (5, vp 2 0)]) (envB := [(2, vp 1 0), (5, vp 2 0), (6, vi .u64 x_9)]) hu hx hw hst hpe hpl (by simpa using hS.sub (lkEs_sub (e := [(2, vp 1 0), (5, vp 2 0)]) rfl)) rfl rfl rfl (by kernel_rfl) rfl rfl ?_ ?_ (fun _ => rfl) (fun _ => rfl) (fun _ _ => SLI.of ?_ rfl)
             · rw [has]
               refine SCI.reg ?_ rfl
               refine SL.sim tk 1 [(2, vp 1 0), (5, vp 2 0), (6, vi .u64 x_9)] [] [] [] (by kernel_rfl) ?_
               refine SL.nilJ fun a w h => ?_
               exact h.at (js := [.g 0, .g 1, .g 2, .g 3, .g 4]) (by kernel_rfl)
             · generalize (fx.put l (.loop { rec with state := .busy }) hu) = fx
               rw [hbo]
               have hp := e_o_10
               refine SCI.block ?_
               obtain ⟨x_11, e_x_11, hp⟩ := bind_inv hp
               refine SCI.reg ?_ rfl
               refine SL.sim tk 4 [(5, vp 2 0), (15, vi .u64 k_1), (18, vi .u64 (ixor .u64 x_6 x_9))] [] [] [] (by kernel_rfl) ?_
               refine SL.eff (e_c Tryd.call114 (ok_block_Mix F k_1 (ixor .u64 x_6 x_9) _ e_x_11) [] [vi .u64 k_1, vi .u64 (ixor .u64 x_6 x_9)] (vi .u64 x_11) (by kernel_rfl) (.inl rfl)) rfl (by kernel_rfl) ?_
               refine SL.sim tk 1 [] [(2, 22, [ci .u64 x_11])] [] [] (by kernel_rfl) ?_
               refine SL.nilJ fun a w h => ?_
               obtain rfl := some_inv' hp
               obtain ⟨κ, _, S⟩ := (show A 21 5 fx [] [.gone, .blk 25 [ci .u64 k_1], .blk 22 [ci .u64 x_11], .blk 31 [.s 4], .rd 1 R8 b_2] a w from h.at (js := [.g 0, .g 1, .g 2, .g 3, .g 4]) (by kernel_rfl))
               exact ⟨(), trivial, κ, S⟩
             · refine SL.sim tk 1 [(0, yv l), (1, vp 3 0), (3, vi .i64 x_7), (38, vb false)] [] [] [] (by kernel_rfl) ?_
               refine SL.nilJ fun a w h => ?_
               exact h.at (js := [.g 0, .g 1, .g 2, .g 3, .g 4]) (by kernel_rfl)
         · refine SC.iff rfl ?_
           refine SC.skipJ fun a w h => ?_
           exact ⟨o_10, hp, h.at (js := [.g 0, .g 1, .g 2, .g 3, .g 4]) (by kernel_rfl)⟩
     · rintro a w ⟨x_8, hp, h⟩
       refine h.go ?_
       refine SC.reg ?_
       refine SL.sim tk 3 [(0, yv l), (1, vp 3 0), (3, vi .i64 (w64 (x_7 + 8)))] [] [] [] (by kernel_rfl) ?_
       refine SL.nilJ fun a w h => ?_
       exact ⟨n1, Nat.lt_succ_self _, x_8, w64 (x_7 + 8), next_inv hp hs1, h.at (js := [.g 0, .g 1, .g 2, .g 3, .g 4]) (by kernel_rfl)⟩
   · refine SC.exitJ rfl fun a w h => ?_
     have ho := done_inv hp hs1
     replace hp := ho1
     try rw [ho] at hp
     obtain rfl := some_inv' hp
     exact A.re (js := [.g 0, .g 1, .g 2, .g 3, .g 4]) tk h (by kernel_rfl)
 · refine SL.sim tk 2 [(4, vi .u64 o_4)] [] [] [] (by kernel_rfl) ?_
   refine SL.nilJ fun a w h => ?_
   exact h.at (js := [.g 0, .g 1, .g 2, .g 3, .g 4]) (by kernel_rfl)
 · obtain rfl := some_inv' hp
   exact A.re (js := [.g 0]) tk h (by kernel_rfl)

theorem ok_mac_Derive (F : Nat) (k_1 : Int) (label_2 : List Int) (parts_3 : (List Int)) (r : Int) (hp : mac_Derive F k_1 label_2 parts_3 = some r) : Spec Tryd.prog 102 [vi .u64 k_1, vt 0, vs 1] [.str label_2, .rd 1 (RInt .u64) parts_3] (vi .u64 r) [.gone, .gone] := by
 refine Spec.enter Tryd.func102 rfl Tryd.ntmps102 rfl rfl fun fx => ?_
 refine SC.r tk [(0, vi .u64 k_1), (1, vt 0), (2, vs 1)] [] [] [] (by kernel_rfl) ?_
 refine SC.seq ?_
 refine SC.reg ?_
 refine SL.sim tk 2 [(2, vs 1), (7, vi .u64 k_1), (8, vt 0)] [] [] [] (by kernel_rfl) ?_
 obtain ⟨l_4, e_l_4, hp⟩ := bind_inv hp
 refine SL.eff (e_s2b (E := 5) tk rfl (.t rfl) e_l_4 (by kernel_rfl)) rfl (by kernel_rfl) ?_
 refine SL.eff (e_lit (sz := 1) (E := 5) (R := R8) (by_ := 1) tk [[ci .u8 0]] [0] (by kernel_rfl) ⟨Clo.int, trivial⟩ rfl (by kernel_rfl) (by kernel_rfl)) rfl (by kernel_rfl) ?_
 refine SL.sim tk 1 [(7, vi .u64 k_1), (9, vs 2), (10, vs 3), (11, vs 1)] [] [] [] (by kernel_rfl) ?_
 obtain ⟨x_5, e_x_5, hp⟩ := bind_inv hp
 refine SL.eff (e_c Tryd.call109 (ok_mac_bytes F parts_3 _ e_x_5) [.g 1] [vs 1] (vs 4) (by kernel_rfl) (.inl rfl)) rfl (by kernel_rfl) ?_
 refine SL.norm (itsN := [.str label_2, .rd 1 (RInt .u64) parts_3, .own 1 5 R8 l_4, .own 1 5 R8 [0], .rd 1 R8 x_5]) (by kernel_rfl) ?_
 refine SL.pre (pre_frz (i := 3) (sz := 1) (E := 5) (R := R8) (l := [0]) (by kernel_rfl)) ?_
 refine SL.pre (pre_frz (i := 2) (sz := 1) (E := 5) (R := R8) (l := l_4) (by kernel_rfl)) ?_
 refine SL.eff (e_lit (sz := 1) (E := 31) (R := (RSl 1 R8)) (by_ := 24) tk [[.s 2], [.s 3], [.s 4]] [l_4, [0], x_5] (by kernel_rfl) ⟨(Clo.sl (by kernel_rfl)), ⟨(Clo.sl (by kernel_rfl)), ⟨(Clo.sl (by kernel_rfl)), trivial⟩⟩⟩ rfl (by kernel_rfl) (by kernel_rfl)) rfl (by kernel_rfl) ?_
 obtain ⟨x_6, e_x_6, hp⟩ := bind_inv hp
 refine SL.pre (pre_frz (i := 5) (sz := 1) (E := 31) (R := (RSl 1 R8)) (l := [l_4, [0], x_5]) (by kernel_rfl)) ?_
 refine SL.eff (e_c Tryd.call41 (ok_octets_Join F [l_4, [0], x_5] _ e_x_6) [.g 5] [vs 5] (vs 6) (by kernel_rfl) (.inl rfl)) rfl (by kernel_rfl) ?_
 obtain ⟨x_7, e_x_7, hp⟩ := bind_inv hp
 refine SL.eff (e_c Tryd.call108 (ok_mac_Tag F k_1 x_6 _ e_x_7) [.g 6] [vi .u64 k_1, vs 6] (vi .u64 x_7) (by kernel_rfl) (.inl rfl)) rfl (by kernel_rfl) ?_
 refine SL.norm (itsN := [.str label_2, .rd 1 (RInt .u64) parts_3, .rd 1 R8 l_4, .rd 1 R8 [0], .rd 1 R8 x_5, .rd 1 (RSl 1 R8) [l_4, [0], x_5], .rd 1 R8 x_6]) (by kernel_rfl) ?_
 refine SL.sim tk 1 [(6, vi .u64 x_7)] [] [] [] (by kernel_rfl) ?_
 refine SL.nilThen ?_
 obtain rfl := some_inv' hp
 exact SC.re (js := [.g 0, .g 1]) tk (by kernel_rfl)

theorem ok_privacy_hash (F : Nat) (irk_1 : Int) (prand_2 : Int) (r : Int) (hp : privacy_hash F irk_1 prand_2 = some r) : Spec Tryd.prog 92 [vi .u64 irk_1, vi .u64 prand_2] [] (vi .u64 r) [] := by
 refine Spec.enter Tryd.func92 rfl Tryd.ntmps92 rfl rfl fun fx => ?_
 refine SC.r tk [(0, vi .u64 irk_1), (1, vi .u64 prand_2)] [] [] [] (by kernel_rfl) ?_
 refine SC.seq ?_
 refine SC.reg ?_
 refine SL.sim tk 2 [(5, vi .u64 irk_1), (6, vi .u64 prand_2)] [] [] [] (by kernel_rfl) ?_
 refine SL.eff (e_lit (sz := 1) (E := 22) (R := (RInt .u64)) (by_ := 8) tk [[ci .u64 prand_2]] [prand_2] (by kernel_rfl) ⟨Clo.int, trivial⟩ rfl (by kernel_rfl) (by kernel_rfl)) rfl (by kernel_rfl) ?_
 obtain ⟨x_3, e_x_3, hp⟩ := bind_inv hp
 refine SL.eff (e_c Tryd.call102 (ok_mac_Derive F irk_1 [114, 112, 97] [prand_2] _ e_x_3) [.k ⟨#[114, 112, 97]⟩, .l 0] [vi .u64 irk_1, .c (.v (.string ⟨#[114, 112, 97]⟩)), vs 0] (vi .u64 x_3) (by kernel_rfl) (.inr ⟨trivial, trivial, trivial⟩)) rfl (by kernel_rfl) ?_
 refine SL.sim tk 2 [(4, vi .u64 (iand .u64 x_3 16777215))] [] [] [] (by kernel_rfl) ?_
 refine SL.nilThen ?_
 obtain rfl := some_inv' hp
 exact SC.re (js := []) tk (by kernel_rfl)

theorem ok_privacy_Resolves (F : Nat) (irk_1 : Int) (a_2 : T_api_Address) (r : Bool) (hp : privacy_Resolves F irk_1 a_2 = some r) : Spec Tryd.prog 78 [vi .u64 irk_1, .g (C_api_Address a_2)] [] (vb r) [] := by
 refine Spec.enter Tryd.func78 rfl Tryd.ntmps78 rfl rfl fun fx => ?_
 refine SC.seq ?_
 refine SC.reg ?_
 refine SL.eff (e_box (E := 24) (C_api_Address a_2) (by kernel_rfl)) rfl (by kernel_rfl) ?_
 refine SL.sim tk 1 [(0, vi .u64 irk_1), (3, vp 0 0)] [] [] [] (by kernel_rfl) ?_
 refine SL.nilThen ?_
 refine SC.seq ?_
 refine SC.seq ?_
 refine SC.reg ?_
 refine SL.sim tk 8 [(0, vi .u64 irk_1), (3, vp 0 0), (13, vb ((irk_1 == 0) || (a_2.Kind != 3)))] [] [] [] (by kernel_rfl) ?_
 obtain ⟨z_4, hz, hpr⟩ := bind_inv hp
 clear hp
 refine SL.cutAt 4 (fun a w => A 29 0 fx [(0, vi .u64 irk_1), (3, vp 0 0), (17, vb z_4)] [.blk 24 (C_api_Address a_2)] a w) ?_ ?_
 · have hp := hz
   rcases Bool.eq_false_or_eq_true (((irk_1 == 0) || (a_2.Kind != 3))) with hg_3 | hg_3
   · replace hp := if_t hp hg_3
     refine SL.no rfl rfl hg_3 rfl ?_
     refine SL.no rfl rfl hg_3 rfl ?_
     refine SL.no rfl rfl hg_3 rfl ?_
     refine SL.pickt rfl hg_3 rfl rfl ?_
     refine SL.nilJ fun a w h => ?_
     obtain rfl := some_inv' hp
     exact h.at (js := [.g 0]) (by kernel_rfl)
   · replace hp := if_f hp hg_3
     refine SL.yes rfl rfl hg_3 ?_
     refine SL.sim tk 1 [(0, vi .u64 irk_1), (3, vp 0 0), (13, vb ((irk_1 == 0) || (a_2.Kind != 3))), (14, .g (C_api_Address a_2))] [] [] [] (by kernel_rfl) ?_
     refine SL.yes rfl rfl hg_3 ?_
     obtain ⟨x_10, e_x_10, hp⟩ := bind_inv hp
     refine SL.eff (e_c Tryd.call48 (ok_address_Check F a_2 _ e_x_10) [] [.g (C_api_Address a_2)] (vi .i64 x_10) (by kernel_rfl) (.inl rfl)) rfl (by kernel_rfl) ?_
     refine SL.yes rfl rfl hg_3 ?_
     refine SL.sim tk 1 [(0, vi .u64 irk_1), (3, vp 0 0), (13, vb ((irk_1 == 0) || (a_2.Kind != 3))), (16, vb (x_10 != 0))] [] [] [] (by kernel_rfl) ?_
     refine SL.pickf rfl hg_3 rfl rfl ?_
     refine SL.nilJ fun a w h => ?_
     obtain rfl := some_inv' hp
     exact h.at (js := [.g 0]) (by kernel_rfl)
 · intro a w h
   have hp := hpr; clear hpr hz
   refine h.goL ?_
   refine SL.nilThen ?_
   refine SC.if' rfl hp (fun hp => ?_) (fun hp => ?_)
   · refine SC.r tk [(4, vb false)] [] [] [] (by kernel_rfl) ?_
     obtain rfl := some_inv' hp
     exact SC.re (js := []) tk (by kernel_rfl)
   · refine SC.skipThen ?_
     refine SC.r tk [(0, vi .u64 irk_1), (3, vp 0 0), (5, vi .u64 (iand .u64 (shrp a_2.Bits 24) 4194303))] [] [.bin .shr .u64 a_2.Bits 24 (shrp a_2.Bits 24) (by kernel_rfl)] [a_2.Bits, 24] (by kernel_rfl) ?_
     refine SC.cut (fun a w => ∃ (z_5 : Bool), privacy_Resolves_j1 F z_5 = some r ∧ A 29 0 fx [(4, vb z_5)] [] a w) ?_ ?_
     · refine SC.draw MO [true] (by kernel_rfl) fun kap_6 D_7 => ?_
       refine SD.takes tk D_7 [] kn0 [0, 1, 2, 3, 4] [] [] [I, I, I, I, I, O, O, O] [(24, vi .u64 (iand .u64 a_2.Bits 16777215)), (25, vi .u64 irk_1), (26, vi .u64 (iand .u64 (shrp a_2.Bits 24) 4194303))] rfl (by kernel_rfl) (by kernel_rfl) (by kernel_rfl) ?_
       obtain ⟨x_8, e_x_8, hp⟩ := bind_inv hp
       refine SD.all1 (i := 5) (by kernel_rfl) ?_
       refine SW.eff D_7 (i := 5) (bs' := [I, I, I, I, I, I, O, O]) rfl (.inl rfl) rfl (e_c Tryd.call92 (ok_privacy_hash F irk_1 (iand .u64 (shrp a_2.Bits 24) 4194303) _ e_x_8) [] [vi .u64 irk_1, vi .u64 (iand .u64 (shrp a_2.Bits 24) 4194303)] (vi .u64 x_8) (by kernel_rfl) (.inl rfl)) (by kernel_rfl) rfl (by kernel_rfl) ?_
       refine SD.takes tk D_7 [] kn0 [6, 7] [] [] [I, I, I, I, I, I, I, I] [(4, vb ((iand .u64 a_2.Bits 16777215) == x_8))] rfl (by kernel_rfl) (by kernel_rfl) (by kernel_rfl) ?_
       refine SD.done (by kernel_rfl) fun a w h => ?_
       exact ⟨((iand .u64 a_2.Bits 16777215) == x_8), hp, h.at (js := []) (by kernel_rfl)⟩
     · rintro a w ⟨z_5, hp, h⟩
       refine h.go ?_
       obtain rfl := some_inv' hp
       exact SC.re (js := []) tk (by kernel_rfl)

theorem ok_privacy_Find_1 (F : Nat) (id_1 : T_api_Identity) (p_2 : T_api_Address) (r : Bool × T_api_Address) (hp : privacy_Find_1 F id_1 p_2 = some r) : Spec Tryd.prog 77 [.g (C_api_Identity id_1), vp 0 0] [.blk 24 (C_api_Address p_2)] (vb r.1) [.blk 24 [ci .i64 r.2.Kind, ci .u64 r.2.Bits]] := by
 refine Spec.enter Tryd.func77 rfl Tryd.ntmps77 rfl rfl fun fx => ?_
 refine SC.seq ?_
 refine SC.reg ?_
 refine SL.eff (e_box (E := 27) (C_api_Identity id_1) (by kernel_rfl)) rfl (by kernel_rfl) ?_
 refine SL.sim tk 1 [(1, vp 0 0), (2, vp 1 0)] [] [] [] (by kernel_rfl) ?_
 refine SL.nilThen ?_
 refine SC.seq ?_
 refine SC.reg ?_
 refine SL.sim tk 3 [(1, vp 0 0), (2, vp 1 0), (5, .g (C_api_Address id_1.Address)), (6, .g (C_api_Address p_2))] [] [] [] (by kernel_rfl) ?_
 refine SL.eff (e_eqs tk (cs := (C_api_Address id_1.Address)) (ds := (C_api_Address p_2)) [(id_1.Address.Kind == p_2.Kind), (id_1.Address.Bits == p_2.Bits)] ((id_1.Address.Kind == p_2.Kind) && (id_1.Address.Bits == p_2.Bits)) rfl rfl (by kernel_rfl) (by kernel_rfl) (by kernel_rfl) (.inl ⟨rfl, (by kernel_rfl)⟩)) rfl (by kernel_rfl) ?_
 refine SL.sim tk 1 [(1, vp 0 0), (2, vp 1 0), (8, vb ((id_1.Address.Kind == p_2.Kind) && (id_1.Address.Bits == p_2.Bits)))] [] [] [] (by kernel_rfl) ?_
 obtain ⟨z_4, hz, hpr⟩ := bind_inv hp
 clear hp
 refine SL.cutAt 5 (fun a w => A 14 1 fx [(13, vb z_4)] [.blk 24 (C_api_Address p_2)] a w) ?_ ?_
 · have hp := hz
   rcases Bool.eq_false_or_eq_true (((id_1.Address.Kind == p_2.Kind) && (id_1.Address.Bits == p_2.Bits))) with hg_3 | hg_3
   · replace hp := if_t hp hg_3
     refine SL.no rfl rfl hg_3 rfl ?_
     refine SL.no rfl rfl hg_3 rfl ?_
     refine SL.no rfl rfl hg_3 rfl ?_
     refine SL.no rfl rfl hg_3 rfl ?_
     refine SL.pickt rfl hg_3 rfl rfl ?_
     refine SL.nilJ fun a w h => ?_
     obtain rfl := some_inv' hp
     exact h.at (js := [.g 0]) (by kernel_rfl)
   · replace hp := if_f hp hg_3
     refine SL.yes rfl rfl hg_3 ?_
     refine SL.sim tk 1 [(1, vp 0 0), (8, vb ((id_1.Address.Kind == p_2.Kind) && (id_1.Address.Bits == p_2.Bits))), (9, vp 1 2)] [] [] [] (by kernel_rfl) ?_
     refine SL.yes rfl rfl hg_3 ?_
     refine SL.sim tk 1 [(1, vp 0 0), (8, vb ((id_1.Address.Kind == p_2.Kind) && (id_1.Address.Bits == p_2.Bits))), (10, vi .u64 id_1.IRK)] [] [] [] (by kernel_rfl) ?_
     refine SL.yes rfl rfl hg_3 ?_
     refine SL.sim tk 1 [(8, vb ((id_1.Address.Kind == p_2.Kind) && (id_1.Address.Bits == p_2.Bits))), (10, vi .u64 id_1.IRK), (11, .g (C_api_Address p_2))] [] [] [] (by kernel_rfl) ?_
     refine SL.yes rfl rfl hg_3 ?_
     obtain ⟨x_6, e_x_6, hp⟩ := bind_inv hp
     refine SL.eff (e_c Tryd.call78 (ok_privacy_Resolves F id_1.IRK p_2 _ e_x_6) [] [vi .u64 id_1.IRK, .g (C_api_Address p_2)] (vb x_6) (by kernel_rfl) (.inl rfl)) rfl (by kernel_rfl) ?_
     refine SL.norm (itsN := [.blk 24 (C_api_Address p_2), .blk 27 (C_api_Identity id_1)]) (by kernel_rfl) ?_
     refine SL.pickf rfl hg_3 rfl rfl ?_
     refine SL.nilJ fun a w h => ?_
     obtain rfl := some_inv' hp
     exact h.at (js := [.g 0]) (by kernel_rfl)
 · intro a w h
   have hp := hpr; clear hpr hz
   refine h.goL ?_
   refine SL.sim tk 1 [(3, vb z_4)] [] [] [] (by kernel_rfl) ?_
   refine SL.nilThen ?_
   obtain rfl := some_inv' hp
   exact SC.re (js := [.g 0]) tk (by kernel_rfl)

theorem ok_slices_IndexFunc_api_Identity_api_Identity_at77 (F : Nat) (s_1 : (List T_api_Identity)) (c_2 : T_api_Address) (r : Int × T_api_Address) (hp : slices_IndexFunc_api_Identity_api_Identity_at77 F s_1 c_2 = some r) : Spec Tryd.prog 76 [vs 0, .f 77 [.p 1 0]] [.rd 3 R_T_api_Identity s_1, .blk 24 (C_api_Address c_2)] (vi .i64 r.1) [.gone, .blk 24 [ci .i64 r.2.Kind, ci .u64 r.2.Bits]] := by
 refine Spec.enter Tryd.func76 rfl Tryd.ntmps76 rfl rfl fun fx => ?_
 refine SC.r tk [(0, vs 0), (1, .f 77 [.p 1 0])] [] [] [] (by kernel_rfl) ?_
 refine SC.cut (fun a w => ∃ (c_5 : T_api_Address), slices_IndexFunc_api_Identity_api_Identity_at77_j1 F c_5 = some r ∧ A 19 2 fx [] [.gone, .blk 24 (C_api_Address c_5)] a w) ?_ ?_
 · refine SC.r tk [(0, vs 0), (1, .f 77 [.p 1 0]), (7, vi .i64 (len s_1)), (8, vi .i64 0)] [] [] [] (by kernel_rfl) ?_
   refine SC.block ?_
   obtain ⟨o1, hi1, ho1⟩ := bind_inv hp
   clear hp
   refine SC.loop (fun n a w => ∃ (c_8 : T_api_Address) (x_9 : Int), iter (fun s => slices_IndexFunc_api_Identity_api_Identity_at77_l1 F s_1 s.1 s.2) n (c_8, x_9) = some o1 ∧ A 19 2 fx [(0, vs 0), (1, .f 77 [.p 1 0]), (7, vi .i64 (len s_1)), (8, vi .i64 x_9)] [.rd 3 R_T_api_Identity s_1, .blk 24 (C_api_Address c_8)] a w) F (fun a w h => ⟨c_2, 0, hi1, h.at (js := [.g 0, .g 1]) (by kernel_rfl)⟩) ?_
   rintro n1 a w ⟨c_8, x_9, hi1, h⟩
   obtain ⟨n1, q1, rfl, hp, hs1⟩ := iter_inv hi1
   replace hp : slices_IndexFunc_api_Identity_api_Identity_at77_l1 F s_1 c_8 x_9 = some q1 := hp
   clear hi1
   refine h.go ?_
   refine SC.r tk [(0, vs 0), (1, .f 77 [.p 1 0]), (7, vi .i64 (len s_1)), (8, vi .i64 x_9), (9, vb (decide (x_9 < (len s_1))))] [] [] [] (by kernel_rfl) ?_
   refine SC.seq ?_
   refine SC.if' rfl hp (fun hp => ?_) (fun hp => ?_)
   · refine SC.skipThen ?_
     refine SC.seq ?_
     refine SC.block ?_
     refine SC.r tk [(0, vs 0), (1, .f 77 [.p 1 0]), (5, vi .i64 x_9), (7, vi .i64 (len s_1)), (8, vi .i64 x_9)] [] [] [] (by kernel_rfl) ?_
     refine SC.seq ?_
     refine SC.reg ?_
     obtain ⟨x_10, e_x_10, hp⟩ := bind_inv hp
     refine SL.pre (pre_ix (i := 0) (iv := x_9) (sz := 3) (R := R_T_api_Identity) (l := s_1) (by kernel_rfl) rfl e_x_10) ?_
     refine SL.sim tk 5 [(0, vs 0), (1, .f 77 [.p 1 0]), (5, vi .i64 x_9), (7, vi .i64 (len s_1)), (8, vi .i64 x_9), (11, .f 77 [.p 1 0]), (15, .g (C_api_Identity x_10))] [] [.el 2] [x_9] (by kernel_rfl) ?_
     obtain ⟨x_11, e_x_11, hp⟩ := bind_inv hp
     refine SL.eff (e_c Tryd.call77 (ok_privacy_Find_1 F x_10 c_8 _ e_x_11) [.g 1] [.g (C_api_Identity x_10), vp 1 0] (vb x_11.1) (by kernel_rfl) (.inl rfl)) rfl (by kernel_rfl) ?_
     refine SL.nilThen ?_
     refine SC.if' rfl hp (fun hp => ?_) (fun hp => ?_)
     · refine SC.r tk [(4, vi .i64 x_9)] [] [] [] (by kernel_rfl) ?_
       have ho := done_inv hp hs1
       replace hp := ho1
       try rw [ho] at hp
       obtain rfl := some_inv' hp
       exact SC.re (js := [.g 0, .g 1]) tk (by kernel_rfl)
     · refine SC.skipThen ?_
       refine SC.reg ?_
       refine SL.sim tk 2 [(0, vs 0), (1, .f 77 [.p 1 0]), (7, vi .i64 (len s_1)), (8, vi .i64 (w64 (x_9 + 1)))] [] [] [] (by kernel_rfl) ?_
       refine SL.nilJ fun a w h => ?_
       exact ⟨n1, Nat.lt_succ_self _, x_11.2, w64 (x_9 + 1), next_inv hp hs1, h.at (js := [.g 0, .g 1]) (by kernel_rfl)⟩
   · refine SC.exitJ rfl fun a w h => ?_
     have ho := done_inv hp hs1
     replace hp := ho1
     try rw [ho] at hp
     exact ⟨c_8, hp, h.at (js := [.g 0, .g 1]) (by kernel_rfl)⟩
 · rintro a w ⟨c_5, hp, h⟩
   refine h.go ?_
   refine SC.r tk [(4, vi .i64 (-1))] [] [] [] (by kernel_rfl) ?_
   obtain rfl := some_inv' hp
   exact SC.re (js := [.g 0, .g 1]) tk (by kernel_rfl)

theorem ok_privacy_Find (F : Nat) (list_1 : (List T_api_Identity)) (a_2 : T_api_Address) (r : Int) (hp : privacy_Find F list_1 a_2 = some r) : Spec Tryd.prog 57 [vs 0, .g (C_api_Address a_2)] [.rd 3 R_T_api_Identity list_1] (vi .i64 r) [.gone] := by
 refine Spec.enter Tryd.func57 rfl Tryd.ntmps57 rfl rfl fun fx => ?_
 refine SC.seq ?_
 refine SC.reg ?_
 refine SL.eff (e_box (E := 24) (C_api_Address a_2) (by kernel_rfl)) rfl (by kernel_rfl) ?_
 refine SL.sim tk 1 [(0, vs 0), (3, vp 1 0)] [] [] [] (by kernel_rfl) ?_
 refine SL.nilThen ?_
 refine SC.seq ?_
 refine SC.seq ?_
 refine SC.reg ?_
 refine SL.sim tk 1 [(0, vs 0), (3, vp 1 0), (5, .g (C_api_Address a_2))] [] [] [] (by kernel_rfl) ?_
 obtain ⟨x_3, e_x_3, hp⟩ := bind_inv hp
 refine SL.eff (e_c Tryd.call48 (ok_address_Check F a_2 _ e_x_3) [] [.g (C_api_Address a_2)] (vi .i64 x_3) (by kernel_rfl) (.inl rfl)) rfl (by kernel_rfl) ?_
 refine SL.sim tk 1 [(0, vs 0), (3, vp 1 0), (7, vb (x_3 != 0))] [] [] [] (by kernel_rfl) ?_
 refine SL.nilThen ?_
 refine SC.if' rfl hp (fun hp => ?_) (fun hp => ?_)
 · refine SC.r tk [(4, vi .i64 (-1))] [] [] [] (by kernel_rfl) ?_
   obtain rfl := some_inv' hp
   exact SC.re (js := [.g 0]) tk (by kernel_rfl)
 · refine SC.skipThen ?_
   refine SC.seq ?_
   refine SC.reg ?_
   refine SL.sim tk 2 [(8, vs 0), (9, .f 77 [.p 1 0])] [] [] [] (by kernel_rfl) ?_
   obtain ⟨x_4, e_x_4, hp⟩ := bind_inv hp
   refine SL.eff (e_c Tryd.call76 (ok_slices_IndexFunc_api_Identity_api_Identity_at77 F list_1 a_2 _ e_x_4) [.g 0, .g 1] [vs 0, .f 77 [.p 1 0]] (vi .i64 x_4.1) (by kernel_rfl) (.inl rfl)) rfl (by kernel_rfl) ?_
   refine SL.norm (itsN := [.rd 3 R_T_api_Identity list_1, .blk 24 (C_api_Address x_4.2)]) (by kernel_rfl) ?_
   refine SL.sim tk 1 [(4, vi .i64 x_4.1)] [] [] [] (by kernel_rfl) ?_
   refine SL.nilThen ?_
   obtain rfl := some_inv' hp
   exact SC.re (js := [.g 0]) tk (by kernel_rfl)

theorem ok_bonds_Find (F : Nat) (l_1 : (List T_api_Bond)) (a_2 : T_api_Address) (r : Int) (hp : bonds_Find F l_1 a_2 = some r) : Spec Tryd.prog 25 [vs 0, .g (C_api_Address a_2)] [.rd 10 R_T_api_Bond l_1] (vi .i64 r) [.gone] := by
 refine Spec.enter Tryd.func25 rfl Tryd.ntmps25 rfl rfl fun fx => ?_
 refine SC.seq ?_
 refine SC.reg ?_
 refine SL.eff (e_box (E := 24) (C_api_Address a_2) (by kernel_rfl)) rfl (by kernel_rfl) ?_
 refine SL.sim tk 1 [(0, vs 0), (3, vp 1 0)] [] [] [] (by kernel_rfl) ?_
 refine SL.nilThen ?_
 refine SC.r tk [(0, vs 0), (3, vp 1 0), (5, vn)] [] [] [] (by kernel_rfl) ?_
 refine SC.cut (fun a w => ∃ (l_3 : (List T_api_Identity)), bonds_Find_j1 F a_2 l_3 = some r ∧ A 23 1 fx [(3, vp 1 0), (5, vs 2)] [.gone, .blk 24 (C_api_Address a_2), .own 3 27 R_T_api_Identity l_3] a w) ?_ ?_
 · refine SC.r tk [(3, vp 1 0), (5, vn), (8, vs 0), (9, vi .i64 (len l_1)), (10, vi .i64 0)] [] [] [] (by kernel_rfl) ?_
   refine SC.block ?_
   obtain ⟨o1, hi1, ho1⟩ := bind_inv hp
   clear hp
   refine SC.loop (fun n a w => ∃ (l_5 : (List T_api_Identity)) (x_6 : Int), iter (fun s => bonds_Find_l1 F l_1 s.1 s.2) n (l_5, x_6) = some o1 ∧ A 23 1 fx [(3, vp 1 0), (5, vs 2), (8, vs 0), (9, vi .i64 (len l_1)), (10, vi .i64 x_6)] [.rd 10 R_T_api_Bond l_1, .blk 24 (C_api_Address a_2), .own 3 27 R_T_api_Identity l_5] a w) F (fun a w h => ⟨[], 0, hi1, h.at (js := [.g 0, .g 1, .n]) (by kernel_rfl)⟩) ?_
   rintro n1 a w ⟨l_5, x_6, hi1, h⟩
   obtain ⟨n1, q1, rfl, hp, hs1⟩ := iter_inv hi1
   replace hp : bonds_Find_l1 F l_1 l_5 x_6 = some q1 := hp
   clear hi1
   refine h.go ?_
   refine SC.r tk [(3, vp 1 0), (5, vs 2), (8, vs 0), (9, vi .i64 (len l_1)), (10, vi .i64 x_6), (11, vb (decide (x_6 < (len l_1))))] [] [] [] (by kernel_rfl) ?_
   refine SC.seq ?_
   refine SC.if' rfl hp (fun hp => ?_) (fun hp => ?_)
   · refine SC.skipThen ?_
     refine SC.seq ?_
     refine SC.block ?_
     refine SC.seq ?_
     refine SC.reg ?_
     obtain ⟨x_7, e_x_7, hp⟩ := bind_inv hp
     refine SL.pre (pre_ix (i := 0) (iv := x_6) (sz := 10) (R := R_T_api_Bond) (l := l_1) (by kernel_rfl) rfl e_x_7) ?_
     refine SL.sim tk 2 [(3, vp 1 0), (5, vs 2), (8, vs 0), (9, vi .i64 (len l_1)), (10, vi .i64 x_6), (13, .g (C_api_Bond x_7 (.s 4)))] [] [.el 3] [x_6] (by kernel_rfl) ?_
     refine SL.eff (e_alloc (E := 30) tk (C_api_Bond (T_api_Bond.mk (T_api_Identity.mk (T_api_Address.mk 0 0) 0) 0 0 false 0 false [] 0) nl) (by kernel_rfl)) rfl (by kernel_rfl) ?_
     refine SL.sim tk 1 [(3, vp 1 0), (5, vs 2), (7, vp 5 0), (8, vs 0), (9, vi .i64 (len l_1)), (10, vi .i64 x_6)] [(5, 30, (C_api_Bond x_7 (.s 4)))] [] [] (by kernel_rfl) ?_
     refine SL.nilThen ?_
     refine SC.reg ?_
     refine SL.sim tk 3 [(3, vp 1 0), (5, vs 2), (8, vs 0), (9, vi .i64 (len l_1)), (10, vi .i64 x_6), (14, vs 2), (16, .g (C_api_Identity x_7.Peer))] [] [] [] (by kernel_rfl) ?_
     refine SL.eff (e_lit (sz := 3) (E := 27) (R := R_T_api_Identity) (by_ := 24) tk [(C_api_Identity x_7.Peer)] [x_7.Peer] (by kernel_rfl) ⟨(clo_T_api_Identity (x := x_7.Peer)), trivial⟩ rfl (by kernel_rfl) (by kernel_rfl)) rfl (by kernel_rfl) ?_
     refine SL.norm (itsN := [.rd 10 R_T_api_Bond l_1, .blk 24 (C_api_Address a_2), .own 3 27 R_T_api_Identity l_5, .elt (some (0, x_6)) false (C_api_Bond x_7 (.s 4)), .rd 2 R_T_api_Subscription x_7.Subs, .blk 30 (C_api_Bond x_7 (.s 4)), .own 3 27 R_T_api_Identity [x_7.Peer]]) (by kernel_rfl) ?_
     obtain ⟨l_8, e_l_8, hp⟩ := bind_inv hp
     refine SL.eff (e_app (i := 2) (l := l_5) (sz := 3) (E := 27) (R := R_T_api_Identity) (by_ := 24) (m := [x_7.Peer]) tk rfl (by kernel_rfl) rfl (.o 27 (by kernel_rfl)) e_l_8 (by kernel_rfl)) rfl (by kernel_rfl) ?_
     refine SL.sim tk 1 [(3, vp 1 0), (5, vs 7), (8, vs 0), (9, vi .i64 (len l_1)), (10, vi .i64 x_6)] [] [] [] (by kernel_rfl) ?_
     refine SL.nilThen ?_
     refine SC.reg ?_
     refine SL.sim tk 2 [(3, vp 1 0), (5, vs 7), (8, vs 0), (9, vi .i64 (len l_1)), (10, vi .i64 (w64 (x_6 + 1)))] [] [] [] (by kernel_rfl) ?_
     refine SL.nilJ fun a w h => ?_
     exact ⟨n1, Nat.lt_succ_self _, l_8, w64 (x_6 + 1), next_inv hp hs1, h.at (js := [.g 0, .g 1, .g 7]) (by kernel_rfl)⟩
   · refine SC.exitJ rfl fun a w h => ?_
     have ho := done_inv hp hs1
     replace hp := ho1
     try rw [ho] at hp
     exact ⟨l_5, hp, h.at (js := [.g 0, .g 1, .g 2]) (by kernel_rfl)⟩
 · rintro a w ⟨l_3, hp, h⟩
   refine h.go ?_
   refine SC.seq ?_
   refine SC.reg ?_
   refine SL.sim tk 2 [(20, vs 2), (21, .g (C_api_Address a_2))] [] [] [] (by kernel_rfl) ?_
   obtain ⟨x_4, e_x_4, hp⟩ := bind_inv hp
   refine SL.eff (e_c Tryd.call57 (ok_privacy_Find F l_3 a_2 _ e_x_4) [.l 2] [vs 2, .g (C_api_Address a_2)] (vi .i64 x_4) (by kernel_rfl) (.inr ⟨trivial, trivial⟩)) rfl (by kernel_rfl) ?_
   refine SL.sim tk 1 [(4, vi .i64 x_4)] [] [] [] (by kernel_rfl) ?_
   refine SL.nilThen ?_
   obtain rfl := some_inv' hp
   exact SC.re (js := [.g 0]) tk (by kernel_rfl)

theorem ok_wirelesslaw40_lives (F : Nat) (r : Bool) (hp : wirelesslaw40_lives F = some r) : Spec Tryd.prog 8 [] [] (vb r) [] := by
 refine Spec.enter Tryd.func8 rfl Tryd.ntmps8 rfl rfl fun fx => ?_
 refine SC.r tk [] [] [] [] (by kernel_rfl) ?_
 refine SC.seq ?_
 refine SC.reg ?_
 obtain ⟨x_1, e_x_1, hp⟩ := bind_inv hp
 refine SL.eff (e_c Tryd.call36 (ok_wirelesslaw40_one F 3 _ e_x_1) [] [vi .u64 3] (.g (C_api_Bond x_1 (.s 0))) (by kernel_rfl) (.inl rfl)) rfl (by kernel_rfl) ?_
 obtain ⟨x_2, e_x_2, hp⟩ := bind_inv hp
 refine SL.eff (e_c Tryd.call10 (ok_bonds_Encode F x_1 _ e_x_2) [.g 0] [.g (C_api_Bond x_1 (.s 0))] (.u [.inl (.s 1), .inl (ci .i64 x_2.2)]) (by kernel_rfl) (.inl rfl)) rfl (by kernel_rfl) ?_
 refine SL.norm (itsN := [.rd 2 R_T_api_Subscription x_1.Subs, .rd 1 R8 x_2.1]) (by kernel_rfl) ?_
 refine SL.sim tk 5 [(1, vs 1), (2, vi .i64 x_2.2)] [] [] [] (by kernel_rfl) ?_
 refine SL.nilThen ?_
 refine SC.seq ?_
 refine SC.reg ?_
 refine SL.eff (e_lit (sz := 1) (E := 5) (R := R8) (by_ := 1) tk [] ([] : (List Int)) (by kernel_rfl) trivial rfl (by kernel_rfl) (by kernel_rfl)) rfl (by kernel_rfl) ?_
 refine SL.sim tk 1 [(1, vs 1), (2, vi .i64 x_2.2), (16, vs 2), (17, vs 1)] [] [] [] (by kernel_rfl) ?_
 obtain ⟨l_3, e_l_3, hp⟩ := bind_inv hp
 refine SL.eff (e_app (i := 2) (l := ([] : (List Int))) (sz := 1) (E := 5) (R := R8) (by_ := 1) (m := x_2.1) tk rfl (by kernel_rfl) rfl (.r (by kernel_rfl)) e_l_3 (by kernel_rfl)) rfl (by kernel_rfl) ?_
 obtain ⟨x_4, e_x_4, hp⟩ := bind_inv hp
 refine SL.pre (pre_frz (i := 3) (sz := 1) (E := 5) (R := R8) (l := l_3) (by kernel_rfl)) ?_
 refine SL.eff (e_c Tryd.call12 (ok_bonds_Decode F l_3 _ e_x_4) [.g 3] [vs 3] (.u [.inr (C_api_Bond x_4.1 (.s 4)), .inl (ci .i64 x_4.2)]) (by kernel_rfl) (.inl rfl)) rfl (by kernel_rfl) ?_
 refine SL.norm (itsN := [.rd 2 R_T_api_Subscription x_1.Subs, .rd 1 R8 x_2.1, .gone, .rd 1 R8 l_3, .rd 2 R_T_api_Subscription x_4.1.Subs]) (by kernel_rfl) ?_
 refine SL.sim tk 3 [(1, vs 1), (2, vi .i64 x_2.2), (20, .g (C_api_Bond x_4.1 (.s 4))), (21, vi .i64 x_4.2)] [] [] [] (by kernel_rfl) ?_
 refine SL.eff (e_alloc (E := 30) tk (C_api_Bond (T_api_Bond.mk (T_api_Identity.mk (T_api_Address.mk 0 0) 0) 0 0 false 0 false [] 0) nl) (by kernel_rfl)) rfl (by kernel_rfl) ?_
 refine SL.sim tk 2 [(1, vs 1), (2, vi .i64 x_2.2), (3, vp 5 0), (4, vi .i64 x_4.2)] [(5, 30, (C_api_Bond x_4.1 (.s 4)))] [] [] (by kernel_rfl) ?_
 refine SL.nilThen ?_
 refine SC.seq ?_
 refine SC.reg ?_
 obtain ⟨x_5, e_x_5, hp⟩ := bind_inv hp
 refine SL.eff (e_c Tryd.call36 (ok_wirelesslaw40_one F 3 _ e_x_5) [] [vi .u64 3] (.g (C_api_Bond x_5 (.s 6))) (by kernel_rfl) (.inl rfl)) rfl (by kernel_rfl) ?_
 refine SL.norm (itsN := [.rd 2 R_T_api_Subscription x_1.Subs, .rd 1 R8 x_2.1, .gone, .rd 1 R8 l_3, .rd 2 R_T_api_Subscription x_4.1.Subs, .blk 30 (C_api_Bond x_4.1 (.s 4)), .rd 2 R_T_api_Subscription x_5.Subs]) (by kernel_rfl) ?_
 obtain ⟨x_6, e_x_6, hp⟩ := bind_inv hp
 refine SL.eff (e_c Tryd.call36 (ok_wirelesslaw40_one F 7 _ e_x_6) [] [vi .u64 7] (.g (C_api_Bond x_6 (.s 7))) (by kernel_rfl) (.inl rfl)) rfl (by kernel_rfl) ?_
 refine SL.eff (e_lit (sz := 10) (E := 30) (R := R_T_api_Bond) (by_ := 96) tk [(C_api_Bond x_5 (.s 6)), (C_api_Bond x_6 (.s 7))] [x_5, x_6] (by kernel_rfl) ⟨(clo_T_api_Bond (x := x_5) (Clo.sl (by kernel_rfl))), ⟨(clo_T_api_Bond (x := x_6) (Clo.sl (by kernel_rfl))), trivial⟩⟩ rfl (by kernel_rfl) (by kernel_rfl)) rfl (by kernel_rfl) ?_
 obtain ⟨x_7, e_x_7, hp⟩ := bind_inv hp
 refine SL.eff (e_c Tryd.call36 (ok_wirelesslaw40_one F 5 _ e_x_7) [] [vi .u64 5] (.g (C_api_Bond x_7 (.s 9))) (by kernel_rfl) (.inl rfl)) rfl (by kernel_rfl) ?_
 refine SL.norm (itsN := [.rd 2 R_T_api_Subscription x_1.Subs, .rd 1 R8 x_2.1, .gone, .rd 1 R8 l_3, .rd 2 R_T_api_Subscription x_4.1.Subs, .blk 30 (C_api_Bond x_4.1 (.s 4)), .rd 2 R_T_api_Subscription x_5.Subs, .rd 2 R_T_api_Subscription x_6.Subs, .own 10 30 R_T_api_Bond [x_5, x_6], .rd 2 R_T_api_Subscription x_7.Subs]) (by kernel_rfl) ?_
 obtain ⟨x_8, e_x_8, hp⟩ := bind_inv hp
 refine SL.pre (pre_frz (i := 8) (sz := 10) (E := 30) (R := R_T_api_Bond) (l := [x_5, x_6]) (by kernel_rfl)) ?_
 refine SL.eff (e_c Tryd.call18 (ok_bonds_Add F [x_5, x_6] x_7 _ e_x_8) [.g 8, .g 9] [vs 8, .g (C_api_Bond x_7 (.s 9))] (.u [.inl (.s 10), .inl (ci .i64 x_8.2.1), .inl (ci .i64 x_8.2.2)]) (by kernel_rfl) (.inl rfl)) rfl (by kernel_rfl) ?_
 refine SL.sim tk 7 [(1, vs 1), (2, vi .i64 x_2.2), (3, vp 5 0), (4, vi .i64 x_4.2), (5, vs 10), (6, vi .i64 x_8.2.1), (7, vi .i64 x_8.2.2)] [] [] [] (by kernel_rfl) ?_
 refine SL.nilThen ?_
 refine SC.seq ?_
 refine SC.reg ?_
 refine SL.sim tk 1 [(1, vs 1), (2, vi .i64 x_2.2), (3, vp 5 0), (4, vi .i64 x_4.2), (5, vs 10), (6, vi .i64 x_8.2.1), (7, vi .i64 x_8.2.2), (32, vs 10)] [] [] [] (by kernel_rfl) ?_
 obtain ⟨x_9, e_x_9, hp⟩ := bind_inv hp
 refine SL.eff (e_c Tryd.call20 (ok_bonds_Remove F x_8.1 3 _ e_x_9) [.g 10] [vs 10, vi .i64 3] (.u [.inl (.s 11), .inl (ci .i64 x_9.2)]) (by kernel_rfl) (.inl rfl)) rfl (by kernel_rfl) ?_
 refine SL.norm (itsN := [.rd 2 R_T_api_Subscription x_1.Subs, .rd 1 R8 x_2.1, .gone, .rd 1 R8 l_3, .rd 2 R_T_api_Subscription x_4.1.Subs, .blk 30 (C_api_Bond x_4.1 (.s 4)), .rd 2 R_T_api_Subscription x_5.Subs, .rd 2 R_T_api_Subscription x_6.Subs, .rd 10 R_T_api_Bond [x_5, x_6], .rd 2 R_T_api_Subscription x_7.Subs, .rd 10 R_T_api_Bond x_8.1, .rd 10 R_T_api_Bond x_9.1]) (by kernel_rfl) ?_
 refine SL.sim tk 5 [(1, vs 1), (2, vi .i64 x_2.2), (3, vp 5 0), (4, vi .i64 x_4.2), (5, vs 10), (6, vi .i64 x_8.2.1), (7, vi .i64 x_8.2.2), (9, vi .i64 x_9.2)] [] [] [] (by kernel_rfl) ?_
 refine SL.nilThen ?_
 refine SC.cut (fun a w => ∃ (z_10 : Bool), wirelesslaw40_lives_j1 F z_10 = some r ∧ A 84 0 fx [(0, vb z_10)] [] a w) ?_ ?_
 · refine SC.draw MO [I, I, O, I, I, I, I, I, I, I, I, I] (by kernel_rfl) fun kap_11 D_12 => ?_
   refine SD.takes tk D_12 [] kn0 [0, 1, 2, 3, 4, 5, 6, 7, 8, 9, 10, 11] [] [] [I, I, I, I, I, I, I, I, I, I, I, I, O, O, O, O, O, O, O, O, O, O, O, O, O, O, O, O, O, O, O, O, O, O, O, O, O, O, O, O, O, O, O, O, O, O, O, O, O] [(3, vp 5 0), (5, vs 10), (6, vi .i64 x_8.2.1), (7, vi .i64 x_8.2.2), (9, vi .i64 x_9.2), (47, vb (((x_2.2 == 0) && ((len x_2.1) == 45)) && (x_4.2 == 0)))] rfl (by kernel_rfl) (by kernel_rfl) (by kernel_rfl) ?_
   rcases Bool.eq_false_or_eq_true ((((x_2.2 == 0) && ((len x_2.1) == 45)) && (x_4.2 == 0))) with hg_13 | hg_13
   · replace hp := if_t hp hg_13
     refine SD.takes tk D_12 [(47, true)] (knS rfl hg_13 kn0) [12] [] [] [I, I, I, I, I, I, I, I, I, I, I, I, I, O, O, O, O, O, O, O, O, O, O, O, O, O, O, O, O, O, O, O, O, O, O, O, O, O, O, O, O, O, O, O, O, O, O, O, O] [(5, vs 10), (6, vi .i64 x_8.2.1), (7, vi .i64 x_8.2.2), (9, vi .i64 x_9.2), (47, vb (((x_2.2 == 0) && ((len x_2.1) == 45)) && (x_4.2 == 0))), (48, .g (C_api_Bond x_4.1 (.s 4)))] rfl (by kernel_rfl) (by kernel_rfl) (by kernel_rfl) ?_
     obtain ⟨x_14, e_x_14, hp⟩ := bind_inv hp
     refine SD.all1 (i := 13) (by kernel_rfl) ?_
     refine SW.eff D_12 (i := 13) (bs' := [I, I, I, I, I, I, I, I, I, I, I, I, I, I, O, O, O, O, O, O, O, O, O, O, O, O, O, O, O, O, O, O, O, O, O, O, O, O, O, O, O, O, O, O, O, O, O, O, O]) rfl (.inr ⟨_, _, _, _, rfl, rfl, rfl, hg_13⟩) rfl (e_c Tryd.call36 (ok_wirelesslaw40_one F 3 _ e_x_14) [] [vi .u64 3] (.g (C_api_Bond x_14 (.s 12))) (by kernel_rfl) (.inl rfl)) (by kernel_rfl) rfl (by kernel_rfl) ?_
     obtain ⟨x_15, e_x_15, hp⟩ := bind_inv hp
     refine SD.all1 (i := 14) (by kernel_rfl) ?_
     refine SW.eff D_12 (i := 14) (bs' := [I, I, I, I, I, I, I, I, I, I, I, I, I, I, I, O, O, O, O, O, O, O, O, O, O, O, O, O, O, O, O, O, O, O, O, O, O, O, O, O, O, O, O, O, O, O, O, O, O]) rfl (.inr ⟨_, _, _, _, rfl, rfl, rfl, hg_13⟩) rfl (e_c Tryd.call16 (ok_wirelessref40_SameBond F x_4.1 x_14 _ e_x_15) [.g 4, .g 12] [.g (C_api_Bond x_4.1 (.s 4)), .g (C_api_Bond x_14 (.s 12))] (vb x_15) (by kernel_rfl) (.inl rfl)) (by kernel_rfl) rfl (by kernel_rfl) ?_
     refine SD.norm (itsN := [.rd 2 R_T_api_Subscription x_1.Subs, .rd 1 R8 x_2.1, .gone, .rd 1 R8 l_3, .rd 2 R_T_api_Subscription x_4.1.Subs, .blk 30 (C_api_Bond x_4.1 (.s 4)), .rd 2 R_T_api_Subscription x_5.Subs, .rd 2 R_T_api_Subscription x_6.Subs, .rd 10 R_T_api_Bond [x_5, x_6], .rd 2 R_T_api_Subscription x_7.Subs, .rd 10 R_T_api_Bond x_8.1, .rd 10 R_T_api_Bond x_9.1, .rd 2 R_T_api_Subscription x_14.Subs]) (by kernel_rfl) ?_
     refine SD.takes tk D_12 [(47, true)] (knS rfl hg_13 kn0) [15, 16, 17, 18, 19, 20, 21, 22, 23, 24, 25, 26, 27, 28, 29] [] [] [I, I, I, I, I, I, I, I, I, I, I, I, I, I, I, I, I, I, I, I, I, I, I, I, I, I, I, I, I, I, O, O, O, O, O, O, O, O, O, O, O, O, O, O, O, O, O, O, O] [(5, vs 10), (9, vi .i64 x_9.2), (65, vb (((x_15 && (x_8.2.2 == 0)) && (x_8.2.1 == 2)) && ((len x_8.1) == 3)))] rfl (by kernel_rfl) (by kernel_rfl) (by kernel_rfl) ?_
     rcases Bool.eq_false_or_eq_true ((((x_15 && (x_8.2.2 == 0)) && (x_8.2.1 == 2)) && ((len x_8.1) == 3))) with hg_16 | hg_16
     · replace hp := if_t hp hg_16
       refine SD.takes tk D_12 [(65, true)] (knS rfl hg_16 kn0) [30] [] [] [I, I, I, I, I, I, I, I, I, I, I, I, I, I, I, I, I, I, I, I, I, I, I, I, I, I, I, I, I, I, I, O, O, O, O, O, O, O, O, O, O, O, O, O, O, O, O, O, O] [(5, vs 10), (9, vi .i64 x_9.2), (65, vb (((x_15 && (x_8.2.2 == 0)) && (x_8.2.1 == 2)) && ((len x_8.1) == 3))), (66, vs 10)] rfl (by kernel_rfl) (by kernel_rfl) (by kernel_rfl) ?_
       obtain ⟨x_17, e_x_17, hp⟩ := bind_inv hp
       refine SD.pre (pre_ix (i := 10) (iv := 2) (sz := 10) (R := R_T_api_Bond) (l := x_8.1) (by kernel_rfl) rfl e_x_17) ?_
       refine SD.all1 (i := 31) (by kernel_rfl) ?_
       refine SW.eff D_12 (i := 31) (v := vp 13 0) (bs' := [I, I, I, I, I, I, I, I, I, I, I, I, I, I, I, I, I, I, I, I, I, I, I, I, I, I, I, I, I, I, I, I, O, O, O, O, O, O, O, O, O, O, O, O, O, O, O, O, O]) rfl (.inr ⟨_, _, _, _, rfl, rfl, rfl, hg_16⟩) rfl (e_valE tk (.el 13) [2] (by kernel_rfl)) (by kernel_rfl) rfl (by kernel_rfl) ?_
       refine SD.all1 (i := 32) (by kernel_rfl) ?_
       refine SW.eff D_12 (i := 32) (v := vp 13 9) (bs' := [I, I, I, I, I, I, I, I, I, I, I, I, I, I, I, I, I, I, I, I, I, I, I, I, I, I, I, I, I, I, I, I, I, O, O, O, O, O, O, O, O, O, O, O, O, O, O, O, O]) rfl (.inr ⟨_, _, _, _, rfl, rfl, rfl, hg_16⟩) rfl (e_val tk (by kernel_rfl)) (by kernel_rfl) rfl (by kernel_rfl) ?_
       refine SD.norm (itsN := [.rd 2 R_T_api_Subscription x_1.Subs, .rd 1 R8 x_2.1, .gone, .rd 1 R8 l_3, .rd 2 R_T_api_Subscription x_4.1.Subs, .blk 30 (C_api_Bond x_4.1 (.s 4)), .rd 2 R_T_api_Subscription x_5.Subs, .rd 2 R_T_api_Subscription x_6.Subs, .rd 10 R_T_api_Bond [x_5, x_6], .rd 2 R_T_api_Subscription x_7.Subs, .rd 10 R_T_api_Bond x_8.1, .rd 10 R_T_api_Bond x_9.1, .rd 2 R_T_api_Subscription x_14.Subs, .elt (some (10, 2)) false (C_api_Bond x_17 (.s 14)), .rd 2 R_T_api_Subscription x_17.Subs]) (by kernel_rfl) ?_
       refine SD.all1 (i := 33) (by kernel_rfl) ?_
       refine SW.eff D_12 (i := 33) (v := vi .i64 x_17.Used) (bs' := [I, I, I, I, I, I, I, I, I, I, I, I, I, I, I, I, I, I, I, I, I, I, I, I, I, I, I, I, I, I, I, I, I, I, O, O, O, O, O, O, O, O, O, O, O, O, O, O, O]) rfl (.inr ⟨_, _, _, _, rfl, rfl, rfl, hg_16⟩) rfl (e_val tk (by kernel_rfl)) (by kernel_rfl) rfl (by kernel_rfl) ?_
       refine SD.takes tk D_12 [(65, true)] (knS rfl hg_16 kn0) [34, 35, 36, 37, 38, 39, 40] [] [] [I, I, I, I, I, I, I, I, I, I, I, I, I, I, I, I, I, I, I, I, I, I, I, I, I, I, I, I, I, I, I, I, I, I, I, I, I, I, I, I, I, O, O, O, O, O, O, O, O] [(5, vs 10), (76, vb ((x_17.Used == 8) && (x_9.2 == 5)))] rfl (by kernel_rfl) (by kernel_rfl) (by kernel_rfl) ?_
       rcases Bool.eq_false_or_eq_true (((x_17.Used == 8) && (x_9.2 == 5))) with hg_18 | hg_18
       · replace hp := if_t hp hg_18
         refine SD.takes tk D_12 [(76, true)] (knS rfl hg_18 kn0) [41] [] [] [I, I, I, I, I, I, I, I, I, I, I, I, I, I, I, I, I, I, I, I, I, I, I, I, I, I, I, I, I, I, I, I, I, I, I, I, I, I, I, I, I, I, O, O, O, O, O, O, O] [(76, vb ((x_17.Used == 8) && (x_9.2 == 5))), (77, vs 10)] rfl (by kernel_rfl) (by kernel_rfl) (by kernel_rfl) ?_
         obtain ⟨x_19, e_x_19, hp⟩ := bind_inv hp
         refine SD.all1 (i := 42) (by kernel_rfl) ?_
         refine SW.eff D_12 (i := 42) (bs' := [I, I, I, I, I, I, I, I, I, I, I, I, I, I, I, I, I, I, I, I, I, I, I, I, I, I, I, I, I, I, I, I, I, I, I, I, I, I, I, I, I, I, I, O, O, O, O, O, O]) rfl (.inr ⟨_, _, _, _, rfl, rfl, rfl, hg_18⟩) rfl (e_c Tryd.call36 (ok_wirelesslaw40_one F 7 _ e_x_19) [] [vi .u64 7] (.g (C_api_Bond x_19 (.s 15))) (by kernel_rfl) (.inl rfl)) (by kernel_rfl) rfl (by kernel_rfl) ?_
         refine SD.norm (itsN := [.rd 2 R_T_api_Subscription x_1.Subs, .rd 1 R8 x_2.1, .gone, .rd 1 R8 l_3, .rd 2 R_T_api_Subscription x_4.1.Subs, .blk 30 (C_api_Bond x_4.1 (.s 4)), .rd 2 R_T_api_Subscription x_5.Subs, .rd 2 R_T_api_Subscription x_6.Subs, .rd 10 R_T_api_Bond [x_5, x_6], .rd 2 R_T_api_Subscription x_7.Subs, .rd 10 R_T_api_Bond x_8.1, .rd 10 R_T_api_Bond x_9.1, .rd 2 R_T_api_Subscription x_14.Subs, .elt (some (10, 2)) false (C_api_Bond x_17 (.s 14)), .rd 2 R_T_api_Subscription x_17.Subs, .rd 2 R_T_api_Subscription x_19.Subs]) (by kernel_rfl) ?_
         refine SD.takes tk D_12 [(76, true)] (knS rfl hg_18 kn0) [43, 44] [] [] [I, I, I, I, I, I, I, I, I, I, I, I, I, I, I, I, I, I, I, I, I, I, I, I, I, I, I, I, I, I, I, I, I, I, I, I, I, I, I, I, I, I, I, I, I, O, O, O, O] [(76, vb ((x_17.Used == 8) && (x_9.2 == 5))), (77, vs 10), (80, .g (C_api_Address x_19.Peer.Address))] rfl (by kernel_rfl) (by kernel_rfl) (by kernel_rfl) ?_
         obtain ⟨x_20, e_x_20, hp⟩ := bind_inv hp
         refine SD.all1 (i := 45) (by kernel_rfl) ?_
         refine SW.eff D_12 (i := 45) (bs' := [I, I, I, I, I, I, I, I, I, I, I, I, I, I, I, I, I, I, I, I, I, I, I, I, I, I, I, I, I, I, I, I, I, I, I, I, I, I, I, I, I, I, I, I, I, I, O, O, O]) rfl (.inr ⟨_, _, _, _, rfl, rfl, rfl, hg_18⟩) rfl (e_c Tryd.call25 (ok_bonds_Find F x_8.1 x_19.Peer.Address _ e_x_20) [.g 10] [vs 10, .g (C_api_Address x_19.Peer.Address)] (vi .i64 x_20) (by kernel_rfl) (.inl rfl)) (by kernel_rfl) rfl (by kernel_rfl) ?_
         refine SD.takes tk D_12 [(76, true)] (knS rfl hg_18 kn0) [46, 47, 48] [] [] [I, I, I, I, I, I, I, I, I, I, I, I, I, I, I, I, I, I, I, I, I, I, I, I, I, I, I, I, I, I, I, I, I, I, I, I, I, I, I, I, I, I, I, I, I, I, I, I, I] [(0, vb (x_20 == 1))] rfl (by kernel_rfl) (by kernel_rfl) (by kernel_rfl) ?_
         refine SD.done (by kernel_rfl) fun a w h => ?_
         exact ⟨(x_20 == 1), hp, h.at (js := []) (by kernel_rfl)⟩
       · replace hp := if_f hp hg_18
         refine SD.takes tk D_12 [(76, false)] (knS rfl hg_18 kn0) [41, 42, 43, 44, 45, 46, 47, 48] [] [] [I, I, I, I, I, I, I, I, I, I, I, I, I, I, I, I, I, I, I, I, I, I, I, I, I, I, I, I, I, I, I, I, I, I, I, I, I, I, I, I, I, I, I, I, I, I, I, I, I] [(0, vb false)] rfl (by kernel_rfl) (by kernel_rfl) (by kernel_rfl) ?_
         refine SD.done (by kernel_rfl) fun a w h => ?_
         exact ⟨false, hp, h.at (js := []) (by kernel_rfl)⟩
     · replace hp := if_f hp hg_16
       refine SD.takes tk D_12 [(65, false)] (knS rfl hg_16 kn0) [30, 31, 32, 33, 34, 35, 36, 37, 38, 39, 40] [] [] [I, I, I, I, I, I, I, I, I, I, I, I, I, I, I, I, I, I, I, I, I, I, I, I, I, I, I, I, I, I, I, I, I, I, I, I, I, I, I, I, I, O, O, O, O, O, O, O, O] [(5, vs 10), (76, vb (false && (x_9.2 == 5)))] rfl (by kernel_rfl) (by kernel_rfl) (by kernel_rfl) ?_
       rcases Bool.eq_false_or_eq_true ((false && (x_9.2 == 5))) with hg_21 | hg_21
       · replace hp := if_t hp hg_21
         refine SD.takes tk D_12 [(76, true)] (knS rfl hg_21 kn0) [41] [] [] [I, I, I, I, I, I, I, I, I, I, I, I, I, I, I, I, I, I, I, I, I, I, I, I, I, I, I, I, I, I, I, I, I, I, I, I, I, I, I, I, I, I, O, O, O, O, O, O, O] [(76, vb (false && (x_9.2 == 5))), (77, vs 10)] rfl (by kernel_rfl) (by kernel_rfl) (by kernel_rfl) ?_
         obtain ⟨x_22, e_x_22, hp⟩ := bind_inv hp
         refine SD.all1 (i := 42) (by kernel_rfl) ?_
         refine SW.eff D_12 (i := 42) (bs' := [I, I, I, I, I, I, I, I, I, I, I, I, I, I, I, I, I, I, I, I, I, I, I, I, I, I, I, I, I, I, I, I, I, I, I, I, I, I, I, I, I, I, I, O, O, O, O, O, O]) rfl (.inr ⟨_, _, _, _, rfl, rfl, rfl, hg_21⟩) rfl (e_c Tryd.call36 (ok_wirelesslaw40_one F 7 _ e_x_22) [] [vi .u64 7] (.g (C_api_Bond x_22 (.s 13))) (by kernel_rfl) (.inl rfl)) (by kernel_rfl) rfl (by kernel_rfl) ?_
         refine SD.takes tk D_12 [(76, true)] (knS rfl hg_21 kn0) [43, 44] [] [] [I, I, I, I, I, I, I, I, I, I, I, I, I, I, I, I, I, I, I, I, I, I, I, I, I, I, I, I, I, I, I, I, I, I, I, I, I, I, I, I, I, I, I, I, I, O, O, O, O] [(76, vb (false && (x_9.2 == 5))), (77, vs 10), (80, .g (C_api_Address x_22.Peer.Address))] rfl (by kernel_rfl) (by kernel_rfl) (by kernel_rfl) ?_
         obtain ⟨x_23, e_x_23, hp⟩ := bind_inv hp
         refine SD.all1 (i := 45) (by kernel_rfl) ?_
         refine SW.eff D_12 (i := 45) (bs' := [I, I, I, I, I, I, I, I, I, I, I, I, I, I, I, I, I, I, I, I, I, I, I, I, I, I, I, I, I, I, I, I, I, I, I, I, I, I, I, I, I, I, I, I, I, I, O, O, O]) rfl (.inr ⟨_, _, _, _, rfl, rfl, rfl, hg_21⟩) rfl (e_c Tryd.call25 (ok_bonds_Find F x_8.1 x_22.Peer.Address _ e_x_23) [.g 10] [vs 10, .g (C_api_Address x_22.Peer.Address)] (vi .i64 x_23) (by kernel_rfl) (.inl rfl)) (by kernel_rfl) rfl (by kernel_rfl) ?_
         refine SD.norm (itsN := [.rd 2 R_T_api_Subscription x_1.Subs, .rd 1 R8 x_2.1, .gone, .rd 1 R8 l_3, .rd 2 R_T_api_Subscription x_4.1.Subs, .blk 30 (C_api_Bond x_4.1 (.s 4)), .rd 2 R_T_api_Subscription x_5.Subs, .rd 2 R_T_api_Subscription x_6.Subs, .rd 10 R_T_api_Bond [x_5, x_6], .rd 2 R_T_api_Subscription x_7.Subs, .rd 10 R_T_api_Bond x_8.1, .rd 10 R_T_api_Bond x_9.1, .rd 2 R_T_api_Subscription x_14.Subs, .rd 2 R_T_api_Subscription x_22.Subs]) (by kernel_rfl) ?_
         refine SD.takes tk D_12 [(76, true)] (knS rfl hg_21 kn0) [46, 47, 48] [] [] [I, I, I, I, I, I, I, I, I, I, I, I, I, I, I, I, I, I, I, I, I, I, I, I, I, I, I, I, I, I, I, I, I, I, I, I, I, I, I, I, I, I, I, I, I, I, I, I, I] [(0, vb (x_23 == 1))] rfl (by kernel_rfl) (by kernel_rfl) (by kernel_rfl) ?_
         refine SD.done (by kernel_rfl) fun a w h => ?_
         exact ⟨(x_23 == 1), hp, h.at (js := []) (by kernel_rfl)⟩
       · replace hp := if_f hp hg_21
         refine SD.takes tk D_12 [(76, false)] (knS rfl hg_21 kn0) [41, 42, 43, 44, 45, 46, 47, 48] [] [] [I, I, I, I, I, I, I, I, I, I, I, I, I, I, I, I, I, I, I, I, I, I, I, I, I, I, I, I, I, I, I, I, I, I, I, I, I, I, I, I, I, I, I, I, I, I, I, I, I] [(0, vb false)] rfl (by kernel_rfl) (by kernel_rfl) (by kernel_rfl) ?_
         refine SD.done (by kernel_rfl) fun a w h => ?_
         exact ⟨false, hp, h.at (js := []) (by kernel_rfl)⟩
   · replace hp := if_f hp hg_13
     refine SD.takes tk D_12 [(47, false)] (knS rfl hg_13 kn0) [12, 13, 14, 15, 16, 17, 18, 19, 20, 21, 22, 23, 24, 25, 26, 27, 28, 29] [] [] [I, I, I, I, I, I, I, I, I, I, I, I, I, I, I, I, I, I, I, I, I, I, I, I, I, I, I, I, I, I, O, O, O, O, O, O, O, O, O, O, O, O, O, O, O, O, O, O, O] [(5, vs 10), (9, vi .i64 x_9.2), (65, vb (((false && (x_8.2.2 == 0)) && (x_8.2.1 == 2)) && ((len x_8.1) == 3)))] rfl (by kernel_rfl) (by kernel_rfl) (by kernel_rfl) ?_
     rcases Bool.eq_false_or_eq_true ((((false && (x_8.2.2 == 0)) && (x_8.2.1 == 2)) && ((len x_8.1) == 3))) with hg_24 | hg_24
     · replace hp := if_t hp hg_24
       refine SD.takes tk D_12 [(65, true)] (knS rfl hg_24 kn0) [30] [] [] [I, I, I, I, I, I, I, I, I, I, I, I, I, I, I, I, I, I, I, I, I, I, I, I, I, I, I, I, I, I, I, O, O, O, O, O, O, O, O, O, O, O, O, O, O, O, O, O, O] [(5, vs 10), (9, vi .i64 x_9.2), (65, vb (((false && (x_8.2.2 == 0)) && (x_8.2.1 == 2)) && ((len x_8.1) == 3))), (66, vs 10)] rfl (by kernel_rfl) (by kernel_rfl) (by kernel_rfl) ?_
       obtain ⟨x_25, e_x_25, hp⟩ := bind_inv hp
       refine SD.pre (pre_ix (i := 10) (iv := 2) (sz := 10) (R := R_T_api_Bond) (l := x_8.1) (by kernel_rfl) rfl e_x_25) ?_
       refine SD.all1 (i := 31) (by kernel_rfl) ?_
       refine SW.eff D_12 (i := 31) (v := vp 12 0) (bs' := [I, I, I, I, I, I, I, I, I, I, I, I, I, I, I, I, I, I, I, I, I, I, I, I, I, I, I, I, I, I, I, I, O, O, O, O, O, O, O, O, O, O, O, O, O, O, O, O, O]) rfl (.inr ⟨_, _, _, _, rfl, rfl, rfl, hg_24⟩) rfl (e_valE tk (.el 12) [2] (by kernel_rfl)) (by kernel_rfl) rfl (by kernel_rfl) ?_
       refine SD.all1 (i := 32) (by kernel_rfl) ?_
       refine SW.eff D_12 (i := 32) (v := vp 12 9) (bs' := [I, I, I, I, I, I, I, I, I, I, I, I, I, I, I, I, I, I, I, I, I, I, I, I, I, I, I, I, I, I, I, I, I, O, O, O, O, O, O, O, O, O, O, O, O, O, O, O, O]) rfl (.inr ⟨_, _, _, _, rfl, rfl, rfl, hg_24⟩) rfl (e_val tk (by kernel_rfl)) (by kernel_rfl) rfl (by kernel_rfl) ?_
       refine SD.norm (itsN := [.rd 2 R_T_api_Subscription x_1.Subs, .rd 1 R8 x_2.1, .gone, .rd 1 R8 l_3, .rd 2 R_T_api_Subscription x_4.1.Subs, .blk 30 (C_api_Bond x_4.1 (.s 4)), .rd 2 R_T_api_Subscription x_5.Subs, .rd 2 R_T_api_Subscription x_6.Subs, .rd 10 R_T_api_Bond [x_5, x_6], .rd 2 R_T_api_Subscription x_7.Subs, .rd 10 R_T_api_Bond x_8.1, .rd 10 R_T_api_Bond x_9.1, .elt (some (10, 2)) false (C_api_Bond x_25 (.s 13)), .rd 2 R_T_api_Subscription x_25.Subs]) (by kernel_rfl) ?_
       refine SD.all1 (i := 33) (by kernel_rfl) ?_
       refine SW.eff D_12 (i := 33) (v := vi .i64 x_25.Used) (bs' := [I, I, I, I, I, I, I, I, I, I, I, I, I, I, I, I, I, I, I, I, I, I, I, I, I, I, I, I, I, I, I, I, I, I, O, O, O, O, O, O, O, O, O, O, O, O, O, O, O]) rfl (.inr ⟨_, _, _, _, rfl, rfl, rfl, hg_24⟩) rfl (e_val tk (by kernel_rfl)) (by kernel_rfl) rfl (by kernel_rfl) ?_
       refine SD.takes tk D_12 [(65, true)] (knS rfl hg_24 kn0) [34, 35, 36, 37, 38, 39, 40] [] [] [I, I, I, I, I, I, I, I, I, I, I, I, I, I, I, I, I, I, I, I, I, I, I, I, I, I, I, I, I, I, I, I, I, I, I, I, I, I, I, I, I, O, O, O, O, O, O, O, O] [(5, vs 10), (76, vb ((x_25.Used == 8) && (x_9.2 == 5)))] rfl (by kernel_rfl) (by kernel_rfl) (by kernel_rfl) ?_
       rcases Bool.eq_false_or_eq_true (((x_25.Used == 8) && (x_9.2 == 5))) with hg_26 | hg_26
       · replace hp := if_t hp hg_26
         refine SD.takes tk D_12 [(76, true)] (knS rfl hg_26 kn0) [41] [] [] [I, I, I, I, I, I, I, I, I, I, I, I, I, I, I, I, I, I, I, I, I, I, I, I, I, I, I, I, I, I, I, I, I, I, I, I, I, I, I, I, I, I, O, O, O, O, O, O, O] [(76, vb ((x_25.Used == 8) && (x_9.2 == 5))), (77, vs 10)] rfl (by kernel_rfl) (by kernel_rfl) (by kernel_rfl) ?_
         obtain ⟨x_27, e_x_27, hp⟩ := bind_inv hp
         refine SD.all1 (i := 42) (by kernel_rfl) ?_
         refine SW.eff D_12 (i := 42) (bs' := [I, I, I, I, I, I, I, I, I, I, I, I, I, I, I, I, I, I, I, I, I, I, I, I, I, I, I, I, I, I, I, I, I, I, I, I, I, I, I, I, I, I, I, O, O, O, O, O, O]) rfl (.inr ⟨_, _, _, _, rfl, rfl, rfl, hg_26⟩) rfl (e_c Tryd.call36 (ok_wirelesslaw40_one F 7 _ e_x_27) [] [vi .u64 7] (.g (C_api_Bond x_27 (.s 14))) (by kernel_rfl) (.inl rfl)) (by kernel_rfl) rfl (by kernel_rfl) ?_
         refine SD.norm (itsN := [.rd 2 R_T_api_Subscription x_1.Subs, .rd 1 R8 x_2.1, .gone, .rd 1 R8 l_3, .rd 2 R_T_api_Subscription x_4.1.Subs, .blk 30 (C_api_Bond x_4.1 (.s 4)), .rd 2 R_T_api_Subscription x_5.Subs, .rd 2 R_T_api_Subscription x_6.Subs, .rd 10 R_T_api_Bond [x_5, x_6], .rd 2 R_T_api_Subscription x_7.Subs, .rd 10 R_T_api_Bond x_8.1, .rd 10 R_T_api_Bond x_9.1, .elt (some (10, 2)) false (C_api_Bond x_25 (.s 13)), .rd 2 R_T_api_Subscription x_25.Subs, .rd 2 R_T_api_Subscription x_27.Subs]) (by kernel_rfl) ?_
         refine SD.takes tk D_12 [(76, true)] (knS rfl hg_26 kn0) [43, 44] [] [] [I, I, I, I, I, I, I, I, I, I, I, I, I, I, I, I, I, I, I, I, I, I, I, I, I, I, I, I, I, I, I, I, I, I, I, I, I, I, I, I, I, I, I, I, I, O, O, O, O] [(76, vb ((x_25.Used == 8) && (x_9.2 == 5))), (77, vs 10), (80, .g (C_api_Address x_27.Peer.Address))] rfl (by kernel_rfl) (by kernel_rfl) (by kernel_rfl) ?_
         obtain ⟨x_28, e_x_28, hp⟩ := bind_inv hp
         refine SD.all1 (i := 45) (by kernel_rfl) ?_
         refine SW.eff D_12 (i := 45) (bs' := [I, I, I, I, I, I, I, I, I, I, I, I, I, I, I, I, I, I, I, I, I, I, I, I, I, I, I, I, I, I, I, I, I, I, I, I, I, I, I, I, I, I, I, I, I, I, O, O, O]) rfl (.inr ⟨_, _, _, _, rfl, rfl, rfl, hg_26⟩) rfl (e_c Tryd.call25 (ok_bonds_Find F x_8.1 x_27.Peer.Address _ e_x_28) [.g 10] [vs 10, .g (C_api_Address x_27.Peer.Address)] (vi .i64 x_28) (by kernel_rfl) (.inl rfl)) (by kernel_rfl) rfl (by kernel_rfl) ?_
         refine SD.takes tk D_12 [(76, true)] (knS rfl hg_26 kn0) [46, 47, 48] [] [] [I, I, I, I, I, I, I, I, I, I, I, I, I, I, I, I, I, I, I, I, I, I, I, I, I, I, I, I, I, I, I, I, I, I, I, I, I, I, I, I, I, I, I, I, I, I, I, I, I] [(0, vb (x_28 == 1))] rfl (by kernel_rfl) (by kernel_rfl) (by kernel_rfl) ?_
         refine SD.done (by kernel_rfl) fun a w h => ?_
         exact ⟨(x_28 == 1), hp, h.at (js := []) (by kernel_rfl)⟩
       · replace hp := if_f hp hg_26
         refine SD.takes tk D_12 [(76, false)] (knS rfl hg_26 kn0) [41, 42, 43, 44, 45, 46, 47, 48] [] [] [I, I, I, I, I, I, I, I, I, I, I, I, I, I, I, I, I, I, I, I, I, I, I, I, I, I, I, I, I, I, I, I, I, I, I, I, I, I, I, I, I, I, I, I, I, I, I, I, I] [(0, vb false)] rfl (by kernel_rfl) (by kernel_rfl) (by kernel_rfl) ?_
         refine SD.done (by kernel_rfl) fun a w h => ?_
         exact ⟨false, hp, h.at (js := []) (by kernel_rfl)⟩
     · replace hp := if_f hp hg_24
       refine SD.takes tk D_12 [(65, false)] (knS rfl hg_24 kn0) [30, 31, 32, 33, 34, 35, 36, 37, 38, 39, 40] [] [] [I, I, I, I, I, I, I, I, I, I, I, I, I, I, I, I, I, I, I, I, I, I, I, I, I, I, I, I, I, I, I, I, I, I, I, I, I, I, I, I, I, O, O, O, O, O, O, O, O] [(5, vs 10), (76, vb (false && (x_9.2 == 5)))] rfl (by kernel_rfl) (by kernel_rfl) (by kernel_rfl) ?_
       rcases Bool.eq_false_or_eq_true ((false && (x_9.2 == 5))) with hg_29 | hg_29
       · replace hp := if_t hp hg_29
         refine SD.takes tk D_12 [(76, true)] (knS rfl hg_29 kn0) [41] [] [] [I, I, I, I, I, I, I, I, I, I, I, I, I, I, I, I, I, I, I, I, I, I, I, I, I, I, I, I, I, I, I, I, I, I, I, I, I, I, I, I, I, I, O, O, O, O, O, O, O] [(76, vb (false && (x_9.2 == 5))), (77, vs 10)] rfl (by kernel_rfl) (by kernel_rfl) (by kernel_rfl) ?_
         obtain ⟨x_30, e_x_30, hp⟩ := bind_inv hp
         refine SD.all1 (i := 42) (by kernel_rfl) ?_
         refine SW.eff D_12 (i := 42) (bs' := [I, I, I, I, I, I, I, I, I, I, I, I, I, I, I, I, I, I, I, I, I, I, I, I, I, I, I, I, I, I, I, I, I, I, I, I, I, I, I, I, I, I, I, O, O, O, O, O, O]) rfl (.inr ⟨_, _, _, _, rfl, rfl, rfl, hg_29⟩) rfl (e_c Tryd.call36 (ok_wirelesslaw40_one F 7 _ e_x_30) [] [vi .u64 7] (.g (C_api_Bond x_30 (.s 12))) (by kernel_rfl) (.inl rfl)) (by kernel_rfl) rfl (by kernel_rfl) ?_
         refine SD.takes tk D_12 [(76, true)] (knS rfl hg_29 kn0) [43, 44] [] [] [I, I, I, I, I, I, I, I, I, I, I, I, I, I, I, I, I, I, I, I, I, I, I, I, I, I, I, I, I, I, I, I, I, I, I, I, I, I, I, I, I, I, I, I, I, O, O, O, O] [(76, vb (false && (x_9.2 == 5))), (77, vs 10), (80, .g (C_api_Address x_30.Peer.Address))] rfl (by kernel_rfl) (by kernel_rfl) (by kernel_rfl) ?_
         obtain ⟨x_31, e_x_31, hp⟩ := bind_inv hp
         refine SD.all1 (i := 45) (by kernel_rfl) ?_
         refine SW.eff D_12 (i := 45) (bs' := [I, I, I, I, I, I, I, I, I, I, I, I, I, I, I, I, I, I, I, I, I, I, I, I, I, I, I, I, I, I, I, I, I, I, I, I, I, I, I, I, I, I, I, I, I, I, O, O, O]) rfl (.inr ⟨_, _, _, _, rfl, rfl, rfl, hg_29⟩) rfl (e_c Tryd.call25 (ok_bonds_Find F x_8.1 x_30.Peer.Address _ e_x_31) [.g 10] [vs 10, .g (C_api_Address x_30.Peer.Address)] (vi .i64 x_31) (by kernel_rfl) (.inl rfl)) (by kernel_rfl) rfl (by kernel_rfl) ?_
         refine SD.norm (itsN := [.rd 2 R_T_api_Subscription x_1.Subs, .rd 1 R8 x_2.1, .gone, .rd 1 R8 l_3, .rd 2 R_T_api_Subscription x_4.1.Subs, .blk 30 (C_api_Bond x_4.1 (.s 4)), .rd 2 R_T_api_Subscription x_5.Subs, .rd 2 R_T_api_Subscription x_6.Subs, .rd 10 R_T_api_Bond [x_5, x_6], .rd 2 R_T_api_Subscription x_7.Subs, .rd 10 R_T_api_Bond x_8.1, .rd 10 R_T_api_Bond x_9.1, .rd 2 R_T_api_Subscription x_30.Subs]) (by kernel_rfl) ?_
         refine SD.takes tk D_12 [(76, true)] (knS rfl hg_29 kn0) [46, 47, 48] [] [] [I, I, I, I, I, I, I, I, I, I, I, I, I, I, I, I, I, I, I, I, I, I, I, I, I, I, I, I, I, I, I, I, I, I, I, I, I, I, I, I, I, I, I, I, I, I, I, I, I] [(0, vb (x_31 == 1))] rfl (by kernel_rfl) (by kernel_rfl) (by kernel_rfl) ?_
         refine SD.done (by kernel_rfl) fun a w h => ?_
         exact ⟨(x_31 == 1), hp, h.at (js := []) (by kernel_rfl)⟩
       · replace hp := if_f hp hg_29
         refine SD.takes tk D_12 [(76, false)] (knS rfl hg_29 kn0) [41, 42, 43, 44, 45, 46, 47, 48] [] [] [I, I, I, I, I, I, I, I, I, I, I, I, I, I, I, I, I, I, I, I, I, I, I, I, I, I, I, I, I, I, I, I, I, I, I, I, I, I, I, I, I, I, I, I, I, I, I, I, I] [(0, vb false)] rfl (by kernel_rfl) (by kernel_rfl) (by kernel_rfl) ?_
         refine SD.done (by kernel_rfl) fun a w h => ?_
         exact ⟨false, hp, h.at (js := []) (by kernel_rfl)⟩
 · rintro a w ⟨z_10, hp, h⟩
   refine h.go ?_
   obtain rfl := some_inv' hp
   exact SC.re (js := []) tk (by kernel_rfl)

theorem ok_wirelessref08_prefix (F : Nat) (kind_1 : Int) (r : Int) (hp : wirelessref08_prefix F kind_1 = some r) : Spec Tryd.prog 72 [vi .i64 kind_1] [] (vi .u64 r) [] := by
 refine Spec.enter Tryd.func72 rfl Tryd.ntmps72 rfl rfl fun fx => ?_
 refine SC.r tk [(0, vi .i64 kind_1)] [] [] [] (by kernel_rfl) ?_
 refine SC.seq ?_
 refine SC.r tk [(3, vi .i64 kind_1)] [] [] [] (by kernel_rfl) ?_
 refine SC.block ?_
 refine SC.r tk [(3, vi .i64 kind_1), (4, vb (kind_1 == 2))] [] [] [] (by kernel_rfl) ?_
 refine SC.if' rfl hp (fun hp => ?_) (fun hp => ?_)
 · refine SC.r tk [(2, vi .u64 3)] [] [] [] (by kernel_rfl) ?_
   obtain rfl := some_inv' hp
   exact SC.re (js := []) tk (by kernel_rfl)
 · refine SC.r tk [(6, vb (kind_1 == 3))] [] [] [] (by kernel_rfl) ?_
   refine SC.if' rfl hp (fun hp => ?_) (fun hp => ?_)
   · refine SC.r tk [(2, vi .u64 1)] [] [] [] (by kernel_rfl) ?_
     obtain rfl := some_inv' hp
     exact SC.re (js := []) tk (by kernel_rfl)
   · refine SC.skipThen ?_
     refine SC.r tk [(2, vi .u64 0)] [] [] [] (by kernel_rfl) ?_
     obtain rfl := some_inv' hp
     exact SC.re (js := []) tk (by kernel_rfl)

theorem ok_wirelessref08_Check (F : Nat) (a_1 : T_api_Address) (r : Int) (hp : wirelessref08_Check F a_1 = some r) : Spec Tryd.prog 49 [.g (C_api_Address a_1)] [] (vi .i64 r) [] := by
 refine Spec.enter Tryd.func49 rfl Tryd.ntmps49 rfl rfl fun fx => ?_
 refine SC.seq ?_
 refine SC.reg ?_
 refine SL.eff (e_box (E := 24) (C_api_Address a_1) (by kernel_rfl)) rfl (by kernel_rfl) ?_
 refine SL.sim tk 1 [(1, vp 0 0)] [] [] [] (by kernel_rfl) ?_
 refine SL.nilThen ?_
 refine SC.seq ?_
 refine SC.r tk [(1, vp 0 0), (12, vb ((decide (a_1.Kind < 1)) || (decide (a_1.Kind > 4))))] [] [] [] (by kernel_rfl) ?_
 refine SC.if' rfl hp (fun hp => ?_) (fun hp => ?_)
 · refine SC.r tk [(2, vi .i64 12)] [] [] [] (by kernel_rfl) ?_
   obtain rfl := some_inv' hp
   exact SC.re (js := []) tk (by kernel_rfl)
 · refine SC.skipThen ?_
   refine SC.seq ?_
   refine SC.r tk [(1, vp 0 0), (15, vb (decide (a_1.Bits ≥ 281474976710656)))] [] [] [] (by kernel_rfl) ?_
   refine SC.if' rfl hp (fun hp => ?_) (fun hp => ?_)
   · refine SC.r tk [(2, vi .i64 5)] [] [] [] (by kernel_rfl) ?_
     obtain rfl := some_inv' hp
     exact SC.re (js := []) tk (by kernel_rfl)
   · refine SC.skipThen ?_
     refine SC.seq ?_
     refine SC.r tk [(1, vp 0 0), (18, vb (a_1.Kind == 1))] [] [] [] (by kernel_rfl) ?_
     refine SC.if' rfl hp (fun hp => ?_) (fun hp => ?_)
     · refine SC.r tk [(2, vi .i64 0)] [] [] [] (by kernel_rfl) ?_
       obtain rfl := some_inv' hp
       exact SC.re (js := []) tk (by kernel_rfl)
     · refine SC.skipThen ?_
       refine SC.r tk [(1, vp 0 0), (3, vi .u64 (remp a_1.Bits 70368744177664))] [] [.bin .rem .u64 a_1.Bits 70368744177664 (remp a_1.Bits 70368744177664) (by kernel_rfl)] [a_1.Bits, 70368744177664] (by kernel_rfl) ?_
       refine SC.r tk [(1, vp 0 0), (3, vi .u64 (remp a_1.Bits 70368744177664)), (4, vi .u64 70368744177663)] [] [] [] (by kernel_rfl) ?_
       refine SC.cut (fun a w => ∃ (x_2 : Int) (x_3 : Int), wirelessref08_Check_j1 F a_1 x_2 x_3 = some r ∧ A 43 0 fx [(1, vp 0 0), (3, vi .u64 x_2), (4, vi .u64 x_3)] [.blk 24 (C_api_Address a_1)] a w) ?_ ?_
       · refine SC.r tk [(1, vp 0 0), (3, vi .u64 (remp a_1.Bits 70368744177664)), (4, vi .u64 70368744177663), (24, vb (a_1.Kind == 3))] [] [] [] (by kernel_rfl) ?_
         refine SC.if' rfl hp (fun hp => ?_) (fun hp => ?_)
         · refine SC.r tk [(1, vp 0 0), (3, vi .u64 (quop .u64 (remp a_1.Bits 70368744177664) 16777216))] [] [.bin .quo .u64 (remp a_1.Bits 70368744177664) 16777216 (quop .u64 (remp a_1.Bits 70368744177664) 16777216) (by kernel_rfl)] [(remp a_1.Bits 70368744177664), 16777216] (by kernel_rfl) ?_
           refine SC.reg ?_
           refine SL.sim tk 1 [(1, vp 0 0), (3, vi .u64 (quop .u64 (remp a_1.Bits 70368744177664) 16777216)), (4, vi .u64 4194303)] [] [] [] (by kernel_rfl) ?_
           refine SL.nilJ fun a w h => ?_
           exact ⟨(quop .u64 (remp a_1.Bits 70368744177664) 16777216), 4194303, hp, h.at (js := [.g 0]) (by kernel_rfl)⟩
         · refine SC.skipJ fun a w h => ?_
           exact ⟨(remp a_1.Bits 70368744177664), 70368744177663, hp, h.at (js := [.g 0]) (by kernel_rfl)⟩
       · rintro a w ⟨x_2, x_3, hp, h⟩
         refine h.go ?_
         refine SC.seq ?_
         refine SC.cut (fun a w => ∃ (z_4 : Bool), wirelessref08_Check_j2 F z_4 = some r ∧ A 43 0 fx [(42, vb z_4)] [] a w) ?_ ?_
         · refine SC.draw MO [true] (by kernel_rfl) fun kap_5 D_6 => ?_
           refine SD.takes tk D_6 [] kn0 [0, 1, 2, 3, 4] [.bin .quo .u64 a_1.Bits 70368744177664 (quop .u64 a_1.Bits 70368744177664) (by kernel_rfl)] [a_1.Bits, 70368744177664] [I, I, I, I, I, O, O, O, O, O, O, O, O, O, O, O] [(3, vi .u64 x_2), (4, vi .u64 x_3), (29, vi .u64 (quop .u64 a_1.Bits 70368744177664)), (31, vi .i64 a_1.Kind)] rfl (by kernel_rfl) (by kernel_rfl) (by kernel_rfl) ?_
           obtain ⟨x_7, e_x_7, hp⟩ := bind_inv hp
           refine SD.all1 (i := 5) (by kernel_rfl) ?_
           refine SW.eff D_6 (i := 5) (bs' := [I, I, I, I, I, I, O, O, O, O, O, O, O, O, O, O]) rfl (.inl rfl) rfl (e_c Tryd.call72 (ok_wirelessref08_prefix F a_1.Kind _ e_x_7) [] [vi .i64 a_1.Kind] (vi .u64 x_7) (by kernel_rfl) (.inl rfl)) (by kernel_rfl) rfl (by kernel_rfl) ?_
           refine SD.takes tk D_6 [] kn0 [6, 7, 8, 9, 10, 11, 12, 13, 14, 15] [] [] [I, I, I, I, I, I, I, I, I, I, I, I, I, I, I, I] [(42, vb ((((quop .u64 a_1.Bits 70368744177664) != x_7) || (x_2 == 0)) || (x_2 == x_3)))] rfl (by kernel_rfl) (by kernel_rfl) (by kernel_rfl) ?_
           refine SD.done (by kernel_rfl) fun a w h => ?_
           exact ⟨((((quop .u64 a_1.Bits 70368744177664) != x_7) || (x_2 == 0)) || (x_2 == x_3)), hp, h.at (js := []) (by kernel_rfl)⟩
         · rintro a w ⟨z_4, hp, h⟩
           refine h.go ?_
           refine SC.if' rfl hp (fun hp => ?_) (fun hp => ?_)
           · refine SC.r tk [(2, vi .i64 1)] [] [] [] (by kernel_rfl) ?_
             obtain rfl := some_inv' hp
             exact SC.re (js := []) tk (by kernel_rfl)
           · refine SC.skipThen ?_
             refine SC.r tk [(2, vi .i64 0)] [] [] [] (by kernel_rfl) ?_
             obtain rfl := some_inv' hp
             exact SC.re (js := []) tk (by kernel_rfl)

theorem ok_wirelessref40_Check (F : Nat) (b_1 : T_api_Bond) (r : Int) (hp : wirelessref40_Check F b_1 = some r) : Spec Tryd.prog 15 [.g (C_api_Bond b_1 (.s 0))] [.rd 2 R_T_api_Subscription b_1.Subs] (vi .i64 r) [.gone] := by
 refine Spec.enter Tryd.func15 rfl Tryd.ntmps15 rfl rfl fun fx => ?_
 refine SC.seq ?_
 refine SC.reg ?_
 refine SL.eff (e_box (E := 30) (C_api_Bond b_1 (.s 0)) (by kernel_rfl)) rfl (by kernel_rfl) ?_
 refine SL.sim tk 1 [(1, vp 1 0)] [] [] [] (by kernel_rfl) ?_
 refine SL.nilThen ?_
 refine SC.seq ?_
 refine SC.reg ?_
 refine SL.sim tk 3 [(1, vp 1 0), (8, .g (C_api_Address b_1.Peer.Address))] [] [] [] (by kernel_rfl) ?_
 obtain ⟨x_2, e_x_2, hp⟩ := bind_inv hp
 refine SL.eff (e_c Tryd.call49 (ok_wirelessref08_Check F b_1.Peer.Address _ e_x_2) [] [.g (C_api_Address b_1.Peer.Address)] (vi .i64 x_2) (by kernel_rfl) (.inl rfl)) rfl (by kernel_rfl) ?_
 refine SL.sim tk 1 [(1, vp 1 0), (3, vi .i64 x_2)] [] [] [] (by kernel_rfl) ?_
 refine SL.nilThen ?_
 refine SC.seq ?_
 refine SC.r tk [(1, vp 1 0), (3, vi .i64 x_2), (11, vb (x_2 != 0))] [] [] [] (by kernel_rfl) ?_
 refine SC.if' rfl hp (fun hp => ?_) (fun hp => ?_)
 · refine SC.r tk [(2, vi .i64 x_2)] [] [] [] (by kernel_rfl) ?_
   obtain rfl := some_inv' hp
   exact SC.re (js := [.g 0]) tk (by kernel_rfl)
 · refine SC.skipThen ?_
   refine SC.seq ?_
   refine SC.r tk [(1, vp 1 0), (24, vb ((b_1.Peer.Address.Kind != 1) && (b_1.Peer.Address.Kind != 2)))] [] [] [] (by kernel_rfl) ?_
   refine SC.if' rfl hp (fun hp => ?_) (fun hp => ?_)
   · refine SC.r tk [(2, vi .i64 12)] [] [] [] (by kernel_rfl) ?_
     obtain rfl := some_inv' hp
     exact SC.re (js := [.g 0]) tk (by kernel_rfl)
   · refine SC.skipThen ?_
     refine SC.seq ?_
     refine SC.r tk [(1, vp 1 0), (32, vb ((decide (b_1.Used < 0)) || (decide (b_1.Used > 4294967295))))] [] [] [] (by kernel_rfl) ?_
     refine SC.if' rfl hp (fun hp => ?_) (fun hp => ?_)
     · refine SC.r tk [(2, vi .i64 5)] [] [] [] (by kernel_rfl) ?_
       obtain rfl := some_inv' hp
       exact SC.re (js := [.g 0]) tk (by kernel_rfl)
     · refine SC.skipThen ?_
       refine SC.seq ?_
       refine SC.r tk [(1, vp 1 0), (36, vb (decide ((len b_1.Subs) > 16)))] [] [] [] (by kernel_rfl) ?_
       refine SC.if' rfl hp (fun hp => ?_) (fun hp => ?_)
       · refine SC.r tk [(2, vi .i64 4)] [] [] [] (by kernel_rfl) ?_
         obtain rfl := some_inv' hp
         exact SC.re (js := [.g 0]) tk (by kernel_rfl)
       · refine SC.skipThen ?_
         refine SC.cut (fun a w => wirelessref40_Check_j1 F = some r ∧ A 76 1 fx [] [.gone] a w) ?_ ?_
         · refine SC.r tk [(1, vp 1 0), (4, vi .i64 0)] [] [] [] (by kernel_rfl) ?_
           refine SC.block ?_
           obtain ⟨o1, hi1, ho1⟩ := bind_inv hp
           clear hp
           refine SC.loop (fun n a w => ∃ (x_3 : Int), iter (fun s => wirelessref40_Check_l1 F b_1 s) n (x_3) = some o1 ∧ A 76 1 fx [(1, vp 1 0), (4, vi .i64 x_3)] [.rd 2 R_T_api_Subscription b_1.Subs, .blk 30 (C_api_Bond b_1 (.s 0))] a w) F (fun a w h => ⟨0, hi1, h.at (js := [.g 0, .g 1]) (by kernel_rfl)⟩) ?_
           rintro n1 a w ⟨x_3, hi1, h⟩
           obtain ⟨n1, q1, rfl, hp, hs1⟩ := iter_inv hi1
           replace hp : wirelessref40_Check_l1 F b_1 x_3 = some q1 := hp
           clear hi1
           refine h.go ?_
           refine SC.seq ?_
           refine SC.r tk [(1, vp 1 0), (4, vi .i64 x_3), (41, vb (decide (x_3 < (len b_1.Subs))))] [] [] [] (by kernel_rfl) ?_
           refine SC.if' rfl hp (fun hp => ?_) (fun hp => ?_)
           · refine SC.skipThen ?_
             refine SC.seq ?_
             refine SC.block ?_
             refine SC.seq ?_
             refine SC.reg ?_
             obtain ⟨x_4, e_x_4, hp⟩ := bind_inv hp
             refine SL.pre (pre_ix (i := 0) (iv := x_3) (sz := 2) (R := R_T_api_Subscription) (l := b_1.Subs) (by kernel_rfl) rfl e_x_4) ?_
             refine SL.sim tk 5 [(1, vp 1 0), (4, vi .i64 x_3), (48, .g (C_api_Subscription x_4))] [] [.el 2] [x_3] (by kernel_rfl) ?_
             refine SL.eff (e_alloc (E := 89) tk [ci .u16 0, ci .i64 0] (by kernel_rfl)) rfl (by kernel_rfl) ?_
             refine SL.sim tk 1 [(1, vp 1 0), (4, vi .i64 x_3), (5, vp 3 0)] [(3, 89, (C_api_Subscription x_4))] [] [] (by kernel_rfl) ?_
             refine SL.nilThen ?_
             refine SC.seq ?_
             refine SC.r tk [(1, vp 1 0), (4, vi .i64 x_3), (5, vp 3 0), (61, vb (((x_4.Handle == 0) || (decide (x_4.Bits < 0))) || (decide (x_4.Bits > 3))))] [] [] [] (by kernel_rfl) ?_
             refine SC.if' rfl hp (fun hp => ?_) (fun hp => ?_)
             · refine SC.r tk [(2, vi .i64 5)] [] [] [] (by kernel_rfl) ?_
               have ho := done_inv hp hs1
               replace hp := ho1
               try rw [ho] at hp
               obtain rfl := some_inv' hp
               exact SC.re (js := [.g 0]) tk (by kernel_rfl)
             · refine SC.skipThen ?_
               refine SC.cut (fun a w => ∃ (z_5 : Bool), wirelessref40_Check_j2 F x_3 z_5 = some q1 ∧ A 76 1 fx [(1, vp 1 0), (4, vi .i64 x_3), (75, vb z_5)] [.rd 2 R_T_api_Subscription b_1.Subs, .blk 30 (C_api_Bond b_1 (.s 0))] a w) ?_ ?_
               · refine SC.draw MO [true, true, true, true] (by kernel_rfl) fun kap_6 D_7 => ?_
                 refine SD.takes tk D_7 [] kn0 [0, 1, 2] [] [] [I, I, I, O, O, O, O, O, O, O, O, O, O, O] [(1, vp 1 0), (4, vi .i64 x_3), (5, vp 3 0), (64, vb (decide (x_3 > 0)))] rfl (by kernel_rfl) (by kernel_rfl) (by kernel_rfl) ?_
                 rcases Bool.eq_false_or_eq_true (decide (x_3 > 0)) with hg_8 | hg_8
                 · replace hp := if_t hp hg_8
                   refine SD.takes tk D_7 [(64, true)] (knS rfl hg_8 kn0) [3, 4, 5, 6, 7, 8] [] [] [I, I, I, I, I, I, I, I, I, O, O, O, O, O] [(1, vp 1 0), (4, vi .i64 x_3), (64, vb (decide (x_3 > 0))), (65, vp 3 0), (66, vi .u16 x_4.Handle), (67, vp 1 8), (68, vs 0), (69, vi .i64 x_3), (70, vi .i64 (w64 (x_3 - 1)))] rfl (by kernel_rfl) (by kernel_rfl) (by kernel_rfl) ?_
                   obtain ⟨x_9, e_x_9, hp⟩ := bind_inv hp
                   refine SD.pre (pre_ix (i := 0) (iv := w64 (x_3 - 1)) (sz := 2) (R := R_T_api_Subscription) (l := b_1.Subs) (by kernel_rfl) rfl e_x_9) ?_
                   refine SD.all1 (i := 9) (by kernel_rfl) ?_
                   refine SW.eff D_7 (i := 9) (v := vp 4 0) (bs' := [I, I, I, I, I, I, I, I, I, I, O, O, O, O]) rfl (.inr ⟨_, _, _, _, rfl, rfl, rfl, hg_8⟩) rfl (e_valE tk (.el 4) [w64 (x_3 - 1)] (by kernel_rfl)) (by kernel_rfl) rfl (by kernel_rfl) ?_
                   refine SD.norm (itsN := [.rd 2 R_T_api_Subscription b_1.Subs, .blk 30 (C_api_Bond b_1 (.s 0)), .elt (some (0, x_3)) false (C_api_Subscription x_4), .blk 89 (C_api_Subscription x_4), .elt (some (0, w64 (x_3 - 1))) false (C_api_Subscription x_9)]) (by kernel_rfl) ?_
                   refine SD.all1 (i := 10) (by kernel_rfl) ?_
                   refine SW.eff D_7 (i := 10) (v := vp 4 0) (bs' := [I, I, I, I, I, I, I, I, I, I, I, O, O, O]) rfl (.inr ⟨_, _, _, _, rfl, rfl, rfl, hg_8⟩) rfl (e_val tk (by kernel_rfl)) (by kernel_rfl) rfl (by kernel_rfl) ?_
                   refine SD.all1 (i := 11) (by kernel_rfl) ?_
                   refine SW.eff D_7 (i := 11) (v := vi .u16 x_9.Handle) (bs' := [I, I, I, I, I, I, I, I, I, I, I, I, O, O]) rfl (.inr ⟨_, _, _, _, rfl, rfl, rfl, hg_8⟩) rfl (e_val tk (by kernel_rfl)) (by kernel_rfl) rfl (by kernel_rfl) ?_
                   refine SD.norm (itsN := [.rd 2 R_T_api_Subscription b_1.Subs, .blk 30 (C_api_Bond b_1 (.s 0)), .elt (some (0, x_3)) false (C_api_Subscription x_4), .blk 89 (C_api_Subscription x_4), .elt (some (0, w64 (x_3 - 1))) false (C_api_Subscription x_9)]) (by kernel_rfl) ?_
                   refine SD.takes tk D_7 [(64, true)] (knS rfl hg_8 kn0) [12, 13] [] [] [I, I, I, I, I, I, I, I, I, I, I, I, I, I] [(1, vp 1 0), (4, vi .i64 x_3), (65, vp 3 0), (66, vi .u16 x_4.Handle), (67, vp 1 8), (68, vs 0), (69, vi .i64 x_3), (70, vi .i64 (w64 (x_3 - 1))), (71, vp 4 0), (72, vp 4 0), (73, vi .u16 x_9.Handle), (74, vb (decide (x_4.Handle ≤ x_9.Handle))), (75, vb (decide (x_4.Handle ≤ x_9.Handle)))] rfl (by kernel_rfl) (by kernel_rfl) (by kernel_rfl) ?_
                   refine SD.done (by kernel_rfl) fun a w h => ?_
                   exact ⟨decide (x_4.Handle ≤ x_9.Handle), hp, h.at (js := [.g 0, .g 1]) (by kernel_rfl)⟩
                 · replace hp := if_f hp hg_8
                   refine SD.takes tk D_7 [(64, false)] (knS rfl hg_8 kn0) [3, 4, 5, 6, 7, 8, 9, 10, 11, 12, 13] [] [] [I, I, I, I, I, I, I, I, I, I, I, I, I, I] [(1, vp 1 0), (4, vi .i64 x_3), (65, .u []), (66, .u []), (67, .u []), (68, .u []), (69, .u []), (70, .u []), (71, .u []), (72, .u []), (73, .u []), (74, .u []), (75, vb false)] rfl (by kernel_rfl) (by kernel_rfl) (by kernel_rfl) ?_
                   refine SD.done (by kernel_rfl) fun a w h => ?_
                   exact ⟨false, hp, h.at (js := [.g 0, .g 1]) (by kernel_rfl)⟩
               · rintro a w ⟨z_5, hp, h⟩
                 refine h.go ?_
                 refine SC.if' rfl hp (fun hp => ?_) (fun hp => ?_)
                 · refine SC.r tk [(2, vi .i64 13)] [] [] [] (by kernel_rfl) ?_
                   have ho := done_inv hp hs1
                   replace hp := ho1
                   try rw [ho] at hp
                   obtain rfl := some_inv' hp
                   exact SC.re (js := [.g 0]) tk (by kernel_rfl)
                 · refine SC.skipThen ?_
                   refine SC.reg ?_
                   refine SL.sim tk 3 [(1, vp 1 0), (4, vi .i64 (w64 (x_3 + 1)))] [] [] [] (by kernel_rfl) ?_
                   refine SL.nilJ fun a w h => ?_
                   exact ⟨n1, Nat.lt_succ_self _, w64 (x_3 + 1), next_inv hp hs1, h.at (js := [.g 0, .g 1]) (by kernel_rfl)⟩
           · refine SC.exitJ rfl fun a w h => ?_
             have ho := done_inv hp hs1
             replace hp := ho1
             try rw [ho] at hp
             exact ⟨hp, h.at (js := [.g 0]) (by kernel_rfl)⟩
         · rintro a w ⟨hp, h⟩
           refine h.go ?_
           refine SC.r tk [(2, vi .i64 0)] [] [] [] (by kernel_rfl) ?_
           obtain rfl := some_inv' hp
           exact SC.re (js := [.g 0]) tk (by kernel_rfl)

theorem ok_wirelessref40_Valid (F : Nat) (l_1 : (List T_api_Bond)) (r : Bool) (hp : wirelessref40_Valid F l_1 = some r) : Spec Tryd.prog 17 [vs 0] [.rd 10 R_T_api_Bond l_1] (vb r) [.gone] := by
 refine Spec.enter Tryd.func17 rfl Tryd.ntmps17 rfl rfl fun fx => ?_
 refine SC.r tk [(0, vs 0)] [] [] [] (by kernel_rfl) ?_
 refine SC.cut (fun a w => wirelessref40_Valid_j1 F l_1 = some r ∧ A 38 1 fx [(0, vs 0)] [.rd 10 R_T_api_Bond l_1] a w) ?_ ?_
 · refine SC.r tk [(0, vs 0), (3, vi .i64 0)] [] [] [] (by kernel_rfl) ?_
   refine SC.block ?_
   obtain ⟨o1, hi1, ho1⟩ := bind_inv hp
   clear hp
   refine SC.loop (fun n a w => ∃ (x_2 : Int), iter (fun s => wirelessref40_Valid_l1 F l_1 s) n (x_2) = some o1 ∧ A 38 1 fx [(0, vs 0), (3, vi .i64 x_2)] [.rd 10 R_T_api_Bond l_1] a w) F (fun a w h => ⟨0, hi1, h.at (js := [.g 0]) (by kernel_rfl)⟩) ?_
   rintro n1 a w ⟨x_2, hi1, h⟩
   obtain ⟨n1, q1, rfl, hp, hs1⟩ := iter_inv hi1
   replace hp : wirelessref40_Valid_l1 F l_1 x_2 = some q1 := hp
   clear hi1
   refine h.go ?_
   refine SC.seq ?_
   refine SC.r tk [(0, vs 0), (3, vi .i64 x_2), (8, vb (decide (x_2 < (len l_1))))] [] [] [] (by kernel_rfl) ?_
   refine SC.if' rfl hp (fun hp => ?_) (fun hp => ?_)
   · refine SC.skipThen ?_
     refine SC.cut (fun a w => wirelessref40_Valid_j2 F x_2 = some q1 ∧ A 38 1 fx [(0, vs 0), (3, vi .i64 x_2)] [.rd 10 R_T_api_Bond l_1] a w) ?_ ?_
     · refine SC.block ?_
       refine SC.seq ?_
       refine SC.seq ?_
       refine SC.reg ?_
       obtain ⟨x_3, e_x_3, hp⟩ := bind_inv hp
       refine SL.pre (pre_ix (i := 0) (iv := x_2) (sz := 10) (R := R_T_api_Bond) (l := l_1) (by kernel_rfl) rfl e_x_3) ?_
       refine SL.sim tk 4 [(0, vs 0), (3, vi .i64 x_2), (14, .g (C_api_Bond x_3 (.s 2)))] [] [.el 1] [x_2] (by kernel_rfl) ?_
       obtain ⟨x_4, e_x_4, hp⟩ := bind_inv hp
       refine SL.eff (e_c Tryd.call15 (ok_wirelessref40_Check F x_3 _ e_x_4) [.g 2] [.g (C_api_Bond x_3 (.s 2))] (vi .i64 x_4) (by kernel_rfl) (.inl rfl)) rfl (by kernel_rfl) ?_
       refine SL.sim tk 1 [(0, vs 0), (3, vi .i64 x_2), (16, vb (x_4 != 0))] [] [] [] (by kernel_rfl) ?_
       refine SL.nilThen ?_
       refine SC.if' rfl hp (fun hp => ?_) (fun hp => ?_)
       · refine SC.r tk [(2, vb false)] [] [] [] (by kernel_rfl) ?_
         have ho := done_inv hp hs1
         replace hp := ho1
         try rw [ho] at hp
         obtain rfl := some_inv' hp
         exact SC.re (js := [.g 0]) tk (by kernel_rfl)
       · refine SC.skipThen ?_
         refine SC.r tk [(0, vs 0), (3, vi .i64 x_2), (4, vi .i64 0)] [] [] [] (by kernel_rfl) ?_
         refine SC.block ?_
         obtain ⟨o2, hi2, ho2⟩ := bind_inv hp
         clear hp
         refine SC.loop (fun n a w => ∃ (x_5 : Int), iter (fun s => wirelessref40_Valid_l2 F l_1 x_2 s) n (x_5) = some o2 ∧ A 38 1 fx [(0, vs 0), (3, vi .i64 x_2), (4, vi .i64 x_5)] [.rd 10 R_T_api_Bond l_1] a w) F (fun a w h => ⟨0, hi2, h.at (js := [.g 0]) (by kernel_rfl)⟩) ?_
         rintro n2 a w ⟨x_5, hi2, h⟩
         obtain ⟨n2, q2, rfl, hp, hs2⟩ := iter_inv hi2
         replace hp : wirelessref40_Valid_l2 F l_1 x_2 x_5 = some q2 := hp
         clear hi2
         refine h.go ?_
         refine SC.seq ?_
         refine SC.r tk [(0, vs 0), (3, vi .i64 x_2), (4, vi .i64 x_5), (19, vb (decide (x_5 < x_2)))] [] [] [] (by kernel_rfl) ?_
         refine SC.if' rfl hp (fun hp => ?_) (fun hp => ?_)
         · refine SC.skipThen ?_
           refine SC.seq ?_
           refine SC.block ?_
           refine SC.cut (fun a w => ∃ (z_6 : Bool), wirelessref40_Valid_j3 F x_5 z_6 = some q2 ∧ A 38 1 fx [(0, vs 0), (3, vi .i64 x_2), (4, vi .i64 x_5), (34, vb z_6)] [.rd 10 R_T_api_Bond l_1] a w) ?_ ?_
           · obtain ⟨x_7, e_x_7, hp⟩ := bind_inv hp
             obtain ⟨x_8, e_x_8, hp⟩ := bind_inv hp
             refine SC.pre (pre_ix (i := 0) (iv := x_5) (sz := 10) (R := R_T_api_Bond) (l := l_1) (by kernel_rfl) rfl e_x_7) ?_
             refine SC.pre (pre_ix (i := 0) (iv := x_2) (sz := 10) (R := R_T_api_Bond) (l := l_1) (by kernel_rfl) rfl e_x_8) ?_
             refine SC.draw MO [true, true, true, true, true] (by kernel_rfl) fun kap_9 D_10 => ?_
             refine SD.takes tk D_10 [] kn0 [0, 1, 2, 3, 4, 5, 6, 7, 8, 9, 10, 11] [.el 1, .el 3] [x_5, x_2] [I, I, I, I, I, I, I, I, I, I, I, I, O] [(0, vs 0), (3, vi .i64 x_2), (4, vi .i64 x_5), (27, .g (C_api_Address x_7.Peer.Address)), (33, .g (C_api_Address x_8.Peer.Address))] rfl (by kernel_rfl) (by kernel_rfl) (by kernel_rfl) ?_
             refine SD.all1 (i := 12) (by kernel_rfl) ?_
             refine SW.eff D_10 (i := 12) (bs' := [I, I, I, I, I, I, I, I, I, I, I, I, I]) rfl (.inl rfl) rfl (e_eqs tk (cs := (C_api_Address x_7.Peer.Address)) (ds := (C_api_Address x_8.Peer.Address)) [(x_7.Peer.Address.Kind == x_8.Peer.Address.Kind), (x_7.Peer.Address.Bits == x_8.Peer.Address.Bits)] ((x_7.Peer.Address.Kind == x_8.Peer.Address.Kind) && (x_7.Peer.Address.Bits == x_8.Peer.Address.Bits)) rfl rfl (by kernel_rfl) (by kernel_rfl) (by kernel_rfl) (.inl ⟨rfl, (by kernel_rfl)⟩)) (by kernel_rfl) rfl (by kernel_rfl) ?_
             refine SD.done (by kernel_rfl) fun a w h => ?_
             exact ⟨((x_7.Peer.Address.Kind == x_8.Peer.Address.Kind) && (x_7.Peer.Address.Bits == x_8.Peer.Address.Bits)), hp, h.at (js := [.g 0]) (by kernel_rfl)⟩
           · rintro a w ⟨z_6, hp, h⟩
             refine h.go ?_
             refine SC.if' rfl hp (fun hp => ?_) (fun hp => ?_)
             · refine SC.r tk [(2, vb false)] [] [] [] (by kernel_rfl) ?_
               have ho := done_inv hp hs2
               replace hp := ho2
               try rw [ho] at hp
               have ho := done_inv hp hs1
               replace hp := ho1
               try rw [ho] at hp
               obtain rfl := some_inv' hp
               exact SC.re (js := [.g 0]) tk (by kernel_rfl)
             · refine SC.skipThen ?_
               refine SC.reg ?_
               refine SL.sim tk 3 [(0, vs 0), (3, vi .i64 x_2), (4, vi .i64 (w64 (x_5 + 1)))] [] [] [] (by kernel_rfl) ?_
               refine SL.nilJ fun a w h => ?_
               exact ⟨n2, Nat.lt_succ_self _, w64 (x_5 + 1), next_inv hp hs2, h.at (js := [.g 0]) (by kernel_rfl)⟩
         · refine SC.exitJ rfl fun a w h => ?_
           have ho := done_inv hp hs2
           replace hp := ho2
           try rw [ho] at hp
           exact ⟨hp, h.at (js := [.g 0]) (by kernel_rfl)⟩
     · rintro a w ⟨hp, h⟩
       refine h.go ?_
       refine SC.reg ?_
       refine SL.sim tk 3 [(0, vs 0), (3, vi .i64 (w64 (x_2 + 1)))] [] [] [] (by kernel_rfl) ?_
       refine SL.nilJ fun a w h => ?_
       exact ⟨n1, Nat.lt_succ_self _, w64 (x_2 + 1), next_inv hp hs1, h.at (js := [.g 0]) (by kernel_rfl)⟩
   · refine SC.exitJ rfl fun a w h => ?_
     have ho := done_inv hp hs1
     replace hp := ho1
     try rw [ho] at hp
     exact ⟨hp, h.at (js := [.g 0]) (by kernel_rfl)⟩
 · rintro a w ⟨hp, h⟩
   refine h.go ?_
   refine SC.r tk [(2, vb (decide ((len l_1) ≤ 16)))] [] [] [] (by kernel_rfl) ?_
   obtain rfl := some_inv' hp
   exact SC.re (js := [.g 0]) tk (by kernel_rfl)

theorem ok_wirelessref40_Copy (F : Nat) (l_1 : (List T_api_Bond)) (r : (List T_api_Bond)) (hp : wirelessref40_Copy F l_1 = some r) : Spec Tryd.prog 9 [vs 0] [.rd 10 R_T_api_Bond l_1] (vs 1) [.gone, .own 10 30 R_T_api_Bond r] := by
 refine Spec.enter Tryd.func9 rfl Tryd.ntmps9 rfl rfl fun fx => ?_
 refine SC.r tk [(0, vs 0)] [] [] [] (by kernel_rfl) ?_
 refine SC.seq ?_
 refine SC.reg ?_
 refine SL.eff (e_lit (sz := 10) (E := 30) (R := R_T_api_Bond) (by_ := 96) tk [] ([] : (List T_api_Bond)) (by kernel_rfl) trivial rfl (by kernel_rfl) (by kernel_rfl)) rfl (by kernel_rfl) ?_
 refine SL.sim tk 1 [(0, vs 0), (3, vs 1)] [] [] [] (by kernel_rfl) ?_
 refine SL.nilThen ?_
 refine SC.cut (fun a w => ∃ (l_2 : (List T_api_Bond)), wirelessref40_Copy_j1 F l_2 = some r ∧ A 27 1 fx [(3, vs 1)] [.gone, .own 10 30 R_T_api_Bond l_2] a w) ?_ ?_
 · refine SC.r tk [(0, vs 0), (3, vs 1), (4, vi .i64 0)] [] [] [] (by kernel_rfl) ?_
   refine SC.block ?_
   obtain ⟨o1, hi1, ho1⟩ := bind_inv hp
   clear hp
   refine SC.loop (fun n a w => ∃ (l_3 : (List T_api_Bond)) (x_4 : Int), iter (fun s => wirelessref40_Copy_l1 F l_1 s.1 s.2) n (l_3, x_4) = some o1 ∧ A 27 1 fx [(0, vs 0), (3, vs 1), (4, vi .i64 x_4)] [.rd 10 R_T_api_Bond l_1, .own 10 30 R_T_api_Bond l_3] a w) F (fun a w h => ⟨([] : (List T_api_Bond)), 0, hi1, h.at (js := [.g 0, .g 1]) (by kernel_rfl)⟩) ?_
   rintro n1 a w ⟨l_3, x_4, hi1, h⟩
   obtain ⟨n1, q1, rfl, hp, hs1⟩ := iter_inv hi1
   replace hp : wirelessref40_Copy_l1 F l_1 l_3 x_4 = some q1 := hp
   clear hi1
   refine h.go ?_
   refine SC.seq ?_
   refine SC.r tk [(0, vs 0), (3, vs 1), (4, vi .i64 x_4), (10, vb (decide (x_4 < (len l_1))))] [] [] [] (by kernel_rfl) ?_
   refine SC.if' rfl hp (fun hp => ?_) (fun hp => ?_)
   · refine SC.skipThen ?_
     refine SC.seq ?_
     refine SC.block ?_
     refine SC.seq ?_
     refine SC.reg ?_
     obtain ⟨x_5, e_x_5, hp⟩ := bind_inv hp
     refine SL.pre (pre_ix (i := 0) (iv := x_4) (sz := 10) (R := R_T_api_Bond) (l := l_1) (by kernel_rfl) rfl e_x_5) ?_
     refine SL.sim tk 4 [(0, vs 0), (3, vs 1), (4, vi .i64 x_4), (16, .g (C_api_Bond x_5 (.s 3)))] [] [.el 2] [x_4] (by kernel_rfl) ?_
     refine SL.eff (e_alloc (E := 30) tk (C_api_Bond (T_api_Bond.mk (T_api_Identity.mk (T_api_Address.mk 0 0) 0) 0 0 false 0 false [] 0) nl) (by kernel_rfl)) rfl (by kernel_rfl) ?_
     refine SL.sim tk 1 [(0, vs 0), (3, vs 1), (4, vi .i64 x_4), (5, vp 4 0)] [(4, 30, (C_api_Bond x_5 (.s 3)))] [] [] (by kernel_rfl) ?_
     refine SL.nilThen ?_
     refine SC.seq ?_
     refine SC.reg ?_
     refine SL.eff (e_lit (sz := 2) (E := 89) (R := R_T_api_Subscription) (by_ := 16) tk [] ([] : (List T_api_Subscription)) (by kernel_rfl) trivial rfl (by kernel_rfl) (by kernel_rfl)) rfl (by kernel_rfl) ?_
     refine SL.norm (itsN := [.rd 10 R_T_api_Bond l_1, .own 10 30 R_T_api_Bond l_3, .elt (some (0, x_4)) false (C_api_Bond x_5 (.s 3)), .rd 2 R_T_api_Subscription x_5.Subs, .blk 30 (C_api_Bond x_5 (.s 3)), .own 2 89 R_T_api_Subscription ([] : (List T_api_Subscription))]) (by kernel_rfl) ?_
     refine SL.sim tk 2 [(0, vs 0), (3, vs 1), (4, vi .i64 x_4), (5, vp 4 0), (17, vs 5), (19, vs 3)] [] [] [] (by kernel_rfl) ?_
     obtain ⟨l_6, e_l_6, hp⟩ := bind_inv hp
     refine SL.eff (e_app (i := 5) (l := ([] : (List T_api_Subscription))) (sz := 2) (E := 89) (R := R_T_api_Subscription) (by_ := 16) (m := x_5.Subs) tk rfl (by kernel_rfl) rfl (.r (by kernel_rfl)) e_l_6 (by kernel_rfl)) rfl (by kernel_rfl) ?_
     refine SL.sim tk 2 [(0, vs 0), (3, vs 1), (4, vi .i64 x_4), (5, vp 4 0)] [(4, 30, (C_api_Bond ({ x_5 with Subs := l_6 }) (.s 6)))] [] [] (by kernel_rfl) ?_
     refine SL.nilThen ?_
     refine SC.reg ?_
     refine SL.sim tk 2 [(0, vs 0), (3, vs 1), (4, vi .i64 x_4), (22, vs 1), (23, .g (C_api_Bond ({ x_5 with Subs := l_6 }) (.s 6)))] [] [] [] (by kernel_rfl) ?_
     refine SL.pre (pre_frz (i := 6) (sz := 2) (E := 89) (R := R_T_api_Subscription) (l := l_6) (by kernel_rfl)) ?_
     refine SL.eff (e_lit (sz := 10) (E := 30) (R := R_T_api_Bond) (by_ := 96) tk [(C_api_Bond ({ x_5 with Subs := l_6 }) (.s 6))] [{ x_5 with Subs := l_6 }] (by kernel_rfl) ⟨(clo_T_api_Bond (x := { x_5 with Subs := l_6 }) (Clo.sl (by kernel_rfl))), trivial⟩ rfl (by kernel_rfl) (by kernel_rfl)) rfl (by kernel_rfl) ?_
     obtain ⟨l_7, e_l_7, hp⟩ := bind_inv hp
     refine SL.eff (e_app (i := 1) (l := l_3) (sz := 10) (E := 30) (R := R_T_api_Bond) (by_ := 96) (m := [{ x_5 with Subs := l_6 }]) tk rfl (by kernel_rfl) rfl (.o 30 (by kernel_rfl)) e_l_7 (by kernel_rfl)) rfl (by kernel_rfl) ?_
     refine SL.norm (itsN := [.rd 10 R_T_api_Bond l_1, .gone, .elt (some (0, x_4)) false (C_api_Bond x_5 (.s 3)), .rd 2 R_T_api_Subscription x_5.Subs, .blk 30 (C_api_Bond ({ x_5 with Subs := l_6 }) (.s 6)), .gone, .rd 2 R_T_api_Subscription l_6, .own 10 30 R_T_api_Bond [{ x_5 with Subs := l_6 }], .own 10 30 R_T_api_Bond l_7]) (by kernel_rfl) ?_
     refine SL.sim tk 1 [(0, vs 0), (3, vs 8), (4, vi .i64 x_4)] [] [] [] (by kernel_rfl) ?_
     refine SL.nilThen ?_
     refine SC.reg ?_
     refine SL.sim tk 3 [(0, vs 0), (3, vs 8), (4, vi .i64 (w64 (x_4 + 1)))] [] [] [] (by kernel_rfl) ?_
     refine SL.nilJ fun a w h => ?_
     exact ⟨n1, Nat.lt_succ_self _, l_7, w64 (x_4 + 1), next_inv hp hs1, h.at (js := [.g 0, .g 8]) (by kernel_rfl)⟩
   · refine SC.exitJ rfl fun a w h => ?_
     have ho := done_inv hp hs1
     replace hp := ho1
     try rw [ho] at hp
     exact ⟨l_3, hp, h.at (js := [.g 0, .g 1]) (by kernel_rfl)⟩
 · rintro a w ⟨l_2, hp, h⟩
   refine h.go ?_
   refine SC.r tk [(2, vs 1)] [] [] [] (by kernel_rfl) ?_
   obtain rfl := some_inv' hp
   exact SC.re (js := [.g 0, .g 1]) tk (by kernel_rfl)

theorem ok_wirelessref40_recent (F : Nat) (l_1 : (List T_api_Bond)) (r : (List T_api_Bond) × Int) (hp : wirelessref40_recent F l_1 = some r) : Spec Tryd.prog 55 [vs 0] [.rd 10 R_T_api_Bond l_1] (.u [.inl (.s 1), .inl (ci .i64 r.2)]) [.gone, .own 10 30 R_T_api_Bond r.1] := by
 refine Spec.enter Tryd.func55 rfl Tryd.ntmps55 rfl rfl fun fx => ?_
 refine SC.r tk [(0, vs 0)] [] [] [] (by kernel_rfl) ?_
 refine SC.seq ?_
 refine SC.reg ?_
 refine SL.sim tk 1 [(0, vs 0), (11, vs 0)] [] [] [] (by kernel_rfl) ?_
 obtain ⟨x_2, e_x_2, hp⟩ := bind_inv hp
 refine SL.eff (e_c Tryd.call9 (ok_wirelessref40_Copy F l_1 _ e_x_2) [.g 0] [vs 0] (vs 1) (by kernel_rfl) (.inl rfl)) rfl (by kernel_rfl) ?_
 refine SL.sim tk 1 [(0, vs 1)] [] [] [] (by kernel_rfl) ?_
 refine SL.nilThen ?_
 refine SC.r tk [(0, vs 1), (4, vi .i64 0)] [] [] [] (by kernel_rfl) ?_
 refine SC.cut (fun a w => ∃ (x_3 : Int), wirelessref40_recent_j1 F x_2 x_3 = some r ∧ A 100 1 fx [(0, vs 1), (4, vi .i64 x_3)] [.gone, .own 10 30 R_T_api_Bond x_2] a w) ?_ ?_
 · refine SC.r tk [(0, vs 1), (4, vi .i64 0), (5, vi .i64 0)] [] [] [] (by kernel_rfl) ?_
   refine SC.block ?_
   obtain ⟨o4, hi4, ho4⟩ := bind_inv hp
   clear hp
   refine SC.loop (fun n a w => ∃ (x_4823 : Int) (x_4824 : Int), iter (fun s => wirelessref40_recent_l4 F x_2 s.1 s.2) n (x_4823, x_4824) = some o4 ∧ A 100 1 fx [(0, vs 1), (4, vi .i64 x_4823), (5, vi .i64 x_4824)] [.gone, .own 10 30 R_T_api_Bond x_2] a w) F (fun a w h => ⟨0, 0, hi4, h.at (js := [.g 0, .g 1]) (by kernel_rfl)⟩) ?_
   rintro n4 a w ⟨x_4823, x_4824, hi4, h⟩
   obtain ⟨n4, q4, rfl, hp, hs4⟩ := iter_inv hi4
   replace hp : wirelessref40_recent_l4 F x_2 x_4823 x_4824 = some q4 := hp
   clear hi4
   refine h.go ?_
   refine SC.seq ?_
   refine SC.r tk [(0, vs 1), (4, vi .i64 x_4823), (5, vi .i64 x_4824), (16, vb (decide (x_4824 < (len x_2))))] [] [] [] (by kernel_rfl) ?_
   refine SC.if' rfl hp (fun hp => ?_) (fun hp => ?_)
   · refine SC.skipThen ?_
     refine SC.seq ?_
     refine SC.block ?_
     refine SC.reg ?_
     obtain ⟨x_4825, e_x_4825, hp⟩ := bind_inv hp
     refine SL.pre (pre_ixo (i := 1) (iv := x_4824) (sz := 10) (E := 30) (R := R_T_api_Bond) (l := x_2) (by kernel_rfl) rfl e_x_4825) ?_
     refine SL.sim tk 8 [(0, vs 1), (4, vi .i64 (imax x_4823 x_4825.Used)), (5, vi .i64 x_4824)] [] [.el 2] [x_4824] (by kernel_rfl) ?_
     refine SL.nilThen ?_
     refine SC.reg ?_
     refine SL.sim tk 3 [(0, vs 1), (4, vi .i64 (imax x_4823 x_4825.Used)), (5, vi .i64 (w64 (x_4824 + 1)))] [] [] [] (by kernel_rfl) ?_
     refine SL.nilJ fun a w h => ?_
     exact ⟨n4, Nat.lt_succ_self _, imax x_4823 x_4825.Used, w64 (x_4824 + 1), next_inv hp hs4, h.at (js := [.g 0, .g 1]) (by kernel_rfl)⟩
   · refine SC.exitJ rfl fun a w h => ?_
     have ho := done_inv hp hs4
     replace hp := ho4
     try rw [ho] at hp
     exact ⟨x_4823, hp, h.at (js := [.g 0, .g 1]) (by kernel_rfl)⟩
 · rintro a w ⟨x_3, hp, h⟩
   refine h.go ?_
   refine SC.seq ?_
   refine SC.r tk [(0, vs 1), (4, vi .i64 x_3), (28, vb ((len x_2) == 0))] [] [] [] (by kernel_rfl) ?_
   refine SC.if' rfl hp (fun hp => ?_) (fun hp => ?_)
   · refine SC.r tk [(2, vs 1), (3, vi .i64 1)] [] [] [] (by kernel_rfl) ?_
     obtain rfl := some_inv' hp
     exact SC.re (js := [.g 0, .g 1]) tk (by kernel_rfl)
   · refine SC.skipThen ?_
     refine SC.seq ?_
     refine SC.r tk [(0, vs 1), (4, vi .i64 x_3), (31, vb (decide (x_3 < 4294967295)))] [] [] [] (by kernel_rfl) ?_
     refine SC.if' rfl hp (fun hp => ?_) (fun hp => ?_)
     · refine SC.r tk [(2, vs 1), (3, vi .i64 (w64 (x_3 + 1)))] [] [] [] (by kernel_rfl) ?_
       obtain rfl := some_inv' hp
       exact SC.re (js := [.g 0, .g 1]) tk (by kernel_rfl)
     · refine SC.skipThen ?_
       refine SC.seq ?_
       refine SC.reg ?_
       refine SL.eff (e_lit (sz := 1) (E := 3) (R := (RInt .i64)) (by_ := 8) tk [] ([] : (List Int)) (by kernel_rfl) trivial rfl (by kernel_rfl) (by kernel_rfl)) rfl (by kernel_rfl) ?_
       refine SL.sim tk 1 [(0, vs 1), (6, vs 2)] [] [] [] (by kernel_rfl) ?_
       refine SL.nilThen ?_
       refine SC.cut (fun a w => ∃ (l_4 : (List Int)), wirelessref40_recent_j2 F x_2 l_4 = some r ∧ A 100 1 fx [(0, vs 1), (6, vs 2)] [.gone, .own 10 30 R_T_api_Bond x_2, .own 1 3 (RInt .i64) l_4] a w) ?_ ?_
       · refine SC.r tk [(0, vs 1), (6, vs 2), (7, vi .i64 0)] [] [] [] (by kernel_rfl) ?_
         refine SC.block ?_
         obtain ⟨o2, hi2, ho2⟩ := bind_inv hp
         clear hp
         refine SC.loop (fun n a w => ∃ (l_11 : (List Int)) (x_12 : Int), iter (fun s => wirelessref40_recent_l2 F x_2 s.1 s.2) n (l_11, x_12) = some o2 ∧ A 100 1 fx [(0, vs 1), (6, vs 2), (7, vi .i64 x_12)] [.gone, .own 10 30 R_T_api_Bond x_2, .own 1 3 (RInt .i64) l_11] a w) F (fun a w h => ⟨([] : (List Int)), 0, hi2, h.at (js := [.g 0, .g 1, .g 2]) (by kernel_rfl)⟩) ?_
         rintro n2 a w ⟨l_11, x_12, hi2, h⟩
         obtain ⟨n2, q2, rfl, hp, hs2⟩ := iter_inv hi2
         replace hp : wirelessref40_recent_l2 F x_2 l_11 x_12 = some q2 := hp
         clear hi2
         refine h.go ?_
         refine SC.seq ?_
         refine SC.r tk [(0, vs 1), (6, vs 2), (7, vi .i64 x_12), (39, vb (decide (x_12 < (len x_2))))] [] [] [] (by kernel_rfl) ?_
         refine SC.if' rfl hp (fun hp => ?_) (fun hp => ?_)
         · refine SC.skipThen ?_
           refine SC.cut (fun a w => ∃ (l_13 : (List Int)), wirelessref40_recent_j4 F x_12 l_13 = some q2 ∧ A 100 1 fx [(0, vs 1), (6, vs 2), (7, vi .i64 x_12)] [.gone, .own 10 30 R_T_api_Bond x_2, .own 1 3 (RInt .i64) l_13] a w) ?_ ?_
           · refine SC.block ?_
             refine SC.r tk [(0, vs 1), (6, vs 2), (7, vi .i64 x_12), (8, vi .i64 0)] [] [] [] (by kernel_rfl) ?_
             refine SC.cut (fun a w => ∃ (x_14 : Int), wirelessref40_recent_j5 F l_11 x_12 x_14 = some q2 ∧ A 100 1 fx [(0, vs 1), (6, vs 2), (7, vi .i64 x_12), (8, vi .i64 x_14)] [.gone, .own 10 30 R_T_api_Bond x_2, .own 1 3 (RInt .i64) l_11] a w) ?_ ?_
             · refine SC.r tk [(0, vs 1), (6, vs 2), (7, vi .i64 x_12), (8, vi .i64 0), (9, vi .i64 0)] [] [] [] (by kernel_rfl) ?_
               refine SC.block ?_
               obtain ⟨o3, hi3, ho3⟩ := bind_inv hp
               clear hp
               refine SC.loop (fun n a w => ∃ (x_16 : Int) (x_17 : Int), iter (fun s => wirelessref40_recent_l3 F x_2 x_12 s.1 s.2) n (x_16, x_17) = some o3 ∧ A 100 1 fx [(0, vs 1), (6, vs 2), (7, vi .i64 x_12), (8, vi .i64 x_16), (9, vi .i64 x_17)] [.gone, .own 10 30 R_T_api_Bond x_2, .own 1 3 (RInt .i64) l_11] a w) F (fun a w h => ⟨0, 0, hi3, h.at (js := [.g 0, .g 1, .g 2]) (by kernel_rfl)⟩) ?_
               rintro n3 a w ⟨x_16, x_17, hi3, h⟩
               obtain ⟨n3, q3, rfl, hp, hs3⟩ := iter_inv hi3
               replace hp : wirelessref40_recent_l3 F x_2 x_12 x_16 x_17 = some q3 := hp
               clear hi3
               refine h.go ?_
               refine SC.seq ?_
               refine SC.r tk [(0, vs 1), (6, vs 2), (7, vi .i64 x_12), (8, vi .i64 x_16), (9, vi .i64 x_17), (45, vb (decide (x_17 < (len x_2))))] [] [] [] (by kernel_rfl) ?_
               refine SC.if' rfl hp (fun hp => ?_) (fun hp => ?_)
               · refine SC.skipThen ?_
                 refine SC.cut (fun a w => ∃ (x_18 : Int), wirelessref40_recent_j6 F x_17 x_18 = some q3 ∧ A 100 1 fx [(0, vs 1), (6, vs 2), (7, vi .i64 x_12), (8, vi .i64 x_18), (9, vi .i64 x_17)] [.gone, .own 10 30 R_T_api_Bond x_2, .own 1 3 (RInt .i64) l_11] a w) ?_ ?_
                 · refine SC.block ?_
                   refine SC.cut (fun a w => ∃ (z_19 : Bool), wirelessref40_recent_j7 F x_16 x_17 z_19 = some q3 ∧ A 100 1 fx [(0, vs 1), (6, vs 2), (7, vi .i64 x_12), (8, vi .i64 x_16), (9, vi .i64 x_17), (76, vb z_19)] [.gone, .own 10 30 R_T_api_Bond x_2, .own 1 3 (RInt .i64) l_11] a w) ?_ ?_
                   · refine SC.draw MO [false, true, true] (by kernel_rfl) fun kap_20 D_21 => ?_
                     refine SD.takes tk D_21 [] kn0 [0, 1, 5, 6] [] [] [I, I, O, O, O, I, I, O, O, O, O, O, O, O, O, O, O, O, O, O, O, O, O, O, O, O, O, O, O] [(0, vs 1), (6, vs 2), (7, vi .i64 x_12), (8, vi .i64 x_16), (9, vi .i64 x_17), (48, vs 1), (49, vi .i64 x_17), (53, vs 1), (54, vi .i64 x_12)] rfl (by kernel_rfl) (by kernel_rfl) (by kernel_rfl) ?_
                     obtain ⟨x_182, e_x_182, hp⟩ := bind_inv hp
                     obtain ⟨x_342, e_x_342, hp⟩ := bind_inv hp
                     obtain ⟨x_582, e_x_582, hp⟩ := bind_inv hp
                     obtain ⟨x_742, e_x_742, hp⟩ := bind_inv hp
                     refine SD.lay 17 [I, I, I, I, I, I, I, I, I, I, I, I, O, O, O, O, O, O, O, O, O, O, O, O, O, O, O, O, O] [(0, vs 1), (6, vs 2), (7, vi .i64 x_12), (8, vi .i64 x_16), (9, vi .i64 x_17), (59, vb (decide (x_342.Used < x_742.Used)))] [.gone, .own 10 30 R_T_api_Bond x_2, .own 1 3 (RInt .i64) l_11] ?_ (fun c_21_0 => ?_)
                     · rcases Bool.eq_false_or_eq_true (decide (x_342.Used < x_742.Used)) with hg_2422 | hg_2422
                       · replace hp := if_t hp hg_2422
                         refine SD.takes tk D_21 [(59, true)] (knS rfl hg_2422 kn0) [12, 13, 14, 15, 16, 17, 18, 19, 20, 21, 22, 23, 24, 25, 26, 27, 28] [] [] [I, I, I, I, I, I, I, I, I, I, I, I, I, I, I, I, I, I, I, I, I, I, I, I, I, I, I, I, I] [(0, vs 1), (6, vs 2), (7, vi .i64 x_12), (8, vi .i64 x_16), (9, vi .i64 x_17), (60, .u []), (61, .u []), (62, .u []), (63, .u []), (64, .u []), (65, .u []), (66, .u []), (67, .u []), (68, .u []), (69, .u []), (70, .u []), (71, .u []), (72, .u []), (73, .u []), (74, .u []), (75, .u []), (76, vb true)] rfl (by kernel_rfl) (by kernel_rfl) (by kernel_rfl) ?_
                         refine SD.done (by kernel_rfl) fun a w h => ?_
                         exact ⟨true, hp, h.at (js := [.g 0, .g 1, .g 2]) (by kernel_rfl)⟩
                       · replace hp := if_f hp hg_2422
                         refine SD.takes tk D_21 [(59, false)] (knS rfl hg_2422 kn0) [12, 13, 17, 18] [] [] [I, I, I, I, I, I, I, I, I, I, I, I, I, I, O, O, O, I, I, O, O, O, O, O, O, O, O, O, O] [(0, vs 1), (6, vs 2), (7, vi .i64 x_12), (8, vi .i64 x_16), (9, vi .i64 x_17), (59, vb (decide (x_342.Used < x_742.Used))), (60, vs 1), (61, vi .i64 x_17), (65, vs 1), (66, vi .i64 x_12)] rfl (by kernel_rfl) (by kernel_rfl) (by kernel_rfl) ?_
                         obtain ⟨x_3543, e_x_3543, hp⟩ := bind_inv hp
                         obtain ⟨x_3703, e_x_3703, hp⟩ := bind_inv hp
                         obtain ⟨x_3943, e_x_3943, hp⟩ := bind_inv hp
                         obtain ⟨x_4103, e_x_4103, hp⟩ := bind_inv hp
                         refine SD.lay 0 [I, I, I, I, I, I, I, I, I, I, I, I, I, I, I, I, I, I, I, I, I, I, I, I, I, I, I, I, I] [(0, vs 1), (6, vs 2), (7, vi .i64 x_12), (8, vi .i64 x_16), (9, vi .i64 x_17), (60, vs 1), (61, vi .i64 x_17), (62, vp 1 (x_17.toNat * 10)), (63, vp 1 (x_17.toNat * 10 + 9)), (64, vi .i64 x_3703.Used), (65, vs 1), (66, vi .i64 x_12), (67, vp 1 (x_12.toNat * 10)), (68, vp 1 (x_12.toNat * 10 + 9)), (69, vi .i64 x_4103.Used), (70, vb (x_3703.Used == x_4103.Used)), (71, vb (x_3703.Used == x_4103.Used)), (75, vb ((x_3703.Used == x_4103.Used) && (decide (x_17 < x_12)))), (76, vb ((x_3703.Used == x_4103.Used) && (decide (x_17 < x_12))))] [.gone, .own 10 30 R_T_api_Bond x_2, .own 1 3 (RInt .i64) l_11] ?_ (fun c_2422_0 => ?_)
                         · refine SD.done (by kernel_rfl) fun a w h => ?_
                           exact ⟨((x_3703.Used == x_4103.Used) && (decide (x_17 < x_12))), hp, h.at (js := [.g 0, .g 1, .g 2]) (by kernel_rfl)⟩
                         · refine SD.lay 8 [I, I, I, I, I, I, I, I, I, I, I, I, I, I, I, I, I, I, I, I, I, O, O, O, O, O, O, O, O] [(0, vs 1), (6, vs 2), (7, vi .i64 x_12), (8, vi .i64 x_16), (9, vi .i64 x_17), (59, vb (decide (x_342.Used < x_742.Used))), (60, vs 1), (61, vi .i64 x_17), (62, vp 1 (x_17.toNat * 10)), (63, vp 1 (x_17.toNat * 10 + 9)), (64, vi .i64 x_3703.Used), (65, vs 1), (66, vi .i64 x_12), (67, vp 1 (x_12.toNat * 10)), (68, vp 1 (x_12.toNat * 10 + 9))] [.gone, .own 10 30 R_T_api_Bond x_2, .own 1 3 (RInt .i64) l_11] ?_ (fun c_2422_1 => ?_)
                           · refine SD.all1 (i := 21) (by kernel_rfl) ?_
                             refine SW.eff D_21 (i := 21) (bs' := [I, I, I, I, I, I, I, I, I, I, I, I, I, I, I, I, I, I, I, I, I, I, O, O, O, O, O, O, O]) rfl (.inr ⟨_, _, _, _, rfl, rfl, rfl, hg_2422⟩) rfl (e_ldf (sz := 10) (E := 30) (R := R_T_api_Bond) (i := 1) (o := 9) (iv := x_12) (l := x_2) tk rfl rfl e_x_4103 rfl (by kernel_rfl) (by kernel_rfl) rfl) (by kernel_rfl) rfl (by kernel_rfl) ?_
                             refine SD.takes tk D_21 [(59, false)] (knS rfl hg_2422 kn0) [22, 23, 24, 25, 26, 27, 28] [] [] [I, I, I, I, I, I, I, I, I, I, I, I, I, I, I, I, I, I, I, I, I, I, I, I, I, I, I, I, I] [(0, vs 1), (6, vs 2), (7, vi .i64 x_12), (8, vi .i64 x_16), (9, vi .i64 x_17), (60, vs 1), (61, vi .i64 x_17), (62, vp 1 (x_17.toNat * 10)), (63, vp 1 (x_17.toNat * 10 + 9)), (64, vi .i64 x_3703.Used), (65, vs 1), (66, vi .i64 x_12), (67, vp 1 (x_12.toNat * 10)), (68, vp 1 (x_12.toNat * 10 + 9)), (69, vi .i64 x_4103.Used), (70, vb (x_3703.Used == x_4103.Used)), (71, vb (x_3703.Used == x_4103.Used)), (75, vb ((x_3703.Used == x_4103.Used) && (decide (x_17 < x_12)))), (76, vb ((x_3703.Used == x_4103.Used) && (decide (x_17 < x_12))))] rfl (by kernel_rfl) (by kernel_rfl) (by kernel_rfl) ?_
                             exact SD.vie D_21 [.g 0, .g 1, .g 2] c_2422_0 (by kernel_rfl)
                           · refine SD.lay 9 [I, I, I, I, I, I, I, I, I, I, I, I, I, I, I, I, I, I, I, I, O, O, O, O, O, O, O, O, O] [(0, vs 1), (6, vs 2), (7, vi .i64 x_12), (8, vi .i64 x_16), (9, vi .i64 x_17), (59, vb (decide (x_342.Used < x_742.Used))), (60, vs 1), (61, vi .i64 x_17), (62, vp 1 (x_17.toNat * 10)), (63, vp 1 (x_17.toNat * 10 + 9)), (64, vi .i64 x_3703.Used), (65, vs 1), (66, vi .i64 x_12), (67, vp 1 (x_12.toNat * 10))] [.gone, .own 10 30 R_T_api_Bond x_2, .own 1 3 (RInt .i64) l_11] ?_ (fun c_2422_2 => ?_)
                             · refine SD.all1 (i := 20) (by kernel_rfl) ?_
                               refine SW.eff D_21 (i := 20) (bs' := [I, I, I, I, I, I, I, I, I, I, I, I, I, I, I, I, I, I, I, I, I, O, O, O, O, O, O, O, O]) rfl (.inr ⟨_, _, _, _, rfl, rfl, rfl, hg_2422⟩) rfl (e_fap (off := 9) (iv := x_12) tk rfl rfl e_x_3943 (by kernel_rfl)) (by kernel_rfl) rfl (by kernel_rfl) ?_
                               exact SD.vie D_21 [.g 0, .g 1, .g 2] c_2422_1 (by kernel_rfl)
                             · refine SD.lay 10 [I, I, I, I, I, I, I, I, I, I, I, I, I, I, I, I, I, I, I, O, O, O, O, O, O, O, O, O, O] [(0, vs 1), (6, vs 2), (7, vi .i64 x_12), (8, vi .i64 x_16), (9, vi .i64 x_17), (59, vb (decide (x_342.Used < x_742.Used))), (60, vs 1), (61, vi .i64 x_17), (62, vp 1 (x_17.toNat * 10)), (63, vp 1 (x_17.toNat * 10 + 9)), (64, vi .i64 x_3703.Used), (65, vs 1), (66, vi .i64 x_12)] [.gone, .own 10 30 R_T_api_Bond x_2, .own 1 3 (RInt .i64) l_11] ?_ (fun c_2422_3 => ?_)
                               · refine SD.all1 (i := 19) (by kernel_rfl) ?_
                                 refine SW.eff D_21 (i := 19) (bs' := [I, I, I, I, I, I, I, I, I, I, I, I, I, I, I, I, I, I, I, I, O, O, O, O, O, O, O, O, O]) rfl (.inr ⟨_, _, _, _, rfl, rfl, rfl, hg_2422⟩) rfl (e_ixp (sz := 10) (E := 30) (R := R_T_api_Bond) (by_ := 96) (l := x_2) tk rfl rfl rfl e_x_3943 (by kernel_rfl)) (by kernel_rfl) rfl (by kernel_rfl) ?_
                                 exact SD.vie D_21 [.g 0, .g 1, .g 2] c_2422_2 (by kernel_rfl)
                               · refine SD.lay 8 [I, I, I, I, I, I, I, I, I, I, I, I, I, I, I, I, O, I, I, I, I, I, O, O, O, O, O, O, O] [(0, vs 1), (6, vs 2), (7, vi .i64 x_12), (8, vi .i64 x_16), (9, vi .i64 x_17), (59, vb (decide (x_342.Used < x_742.Used))), (60, vs 1), (61, vi .i64 x_17), (62, vp 1 (x_17.toNat * 10)), (63, vp 1 (x_17.toNat * 10 + 9)), (65, vs 1), (66, vi .i64 x_12), (67, vp 1 (x_12.toNat * 10)), (68, vp 1 (x_12.toNat * 10 + 9)), (69, vi .i64 x_4103.Used)] [.gone, .own 10 30 R_T_api_Bond x_2, .own 1 3 (RInt .i64) l_11] ?_ (fun c_2422_4 => ?_)
                                 · refine SD.all1 (i := 16) (by kernel_rfl) ?_
                                   refine SW.eff D_21 (i := 16) (bs' := [I, I, I, I, I, I, I, I, I, I, I, I, I, I, I, I, I, I, I, I, I, I, O, O, O, O, O, O, O]) rfl (.inr ⟨_, _, _, _, rfl, rfl, rfl, hg_2422⟩) rfl (e_ldf (sz := 10) (E := 30) (R := R_T_api_Bond) (i := 1) (o := 9) (iv := x_17) (l := x_2) tk rfl rfl e_x_3703 rfl (by kernel_rfl) (by kernel_rfl) rfl) (by kernel_rfl) rfl (by kernel_rfl) ?_
                                   refine SD.takes tk D_21 [(59, false)] (knS rfl hg_2422 kn0) [22, 23, 24, 25, 26, 27, 28] [] [] [I, I, I, I, I, I, I, I, I, I, I, I, I, I, I, I, I, I, I, I, I, I, I, I, I, I, I, I, I] [(0, vs 1), (6, vs 2), (7, vi .i64 x_12), (8, vi .i64 x_16), (9, vi .i64 x_17), (60, vs 1), (61, vi .i64 x_17), (62, vp 1 (x_17.toNat * 10)), (63, vp 1 (x_17.toNat * 10 + 9)), (64, vi .i64 x_3703.Used), (65, vs 1), (66, vi .i64 x_12), (67, vp 1 (x_12.toNat * 10)), (68, vp 1 (x_12.toNat * 10 + 9)), (69, vi .i64 x_4103.Used), (70, vb (x_3703.Used == x_4103.Used)), (71, vb (x_3703.Used == x_4103.Used)), (75, vb ((x_3703.Used == x_4103.Used) && (decide (x_17 < x_12)))), (76, vb ((x_3703.Used == x_4103.Used) && (decide (x_17 < x_12))))] rfl (by kernel_rfl) (by kernel_rfl) (by kernel_rfl) ?_
                                   exact SD.vie D_21 [.g 0, .g 1, .g 2] c_2422_0 (by kernel_rfl)
                                 · refine SD.lay 9 [I, I, I, I, I, I, I, I, I, I, I, I, I, I, I, I, O, I, I, I, I, O, O, O, O, O, O, O, O] [(0, vs 1), (6, vs 2), (7, vi .i64 x_12), (8, vi .i64 x_16), (9, vi .i64 x_17), (59, vb (decide (x_342.Used < x_742.Used))), (60, vs 1), (61, vi .i64 x_17), (62, vp 1 (x_17.toNat * 10)), (63, vp 1 (x_17.toNat * 10 + 9)), (65, vs 1), (66, vi .i64 x_12), (67, vp 1 (x_12.toNat * 10)), (68, vp 1 (x_12.toNat * 10 + 9))] [.gone, .own 10 30 R_T_api_Bond x_2, .own 1 3 (RInt .i64) l_11] ?_ (fun c_2422_5 => ?_)
                                   · refine SD.all2 (i := 16) (j := 21) (by kernel_rfl) ?_ ?_
                                     · refine SW.eff D_21 (i := 16) (bs' := [I, I, I, I, I, I, I, I, I, I, I, I, I, I, I, I, I, I, I, I, I, O, O, O, O, O, O, O, O]) rfl (.inr ⟨_, _, _, _, rfl, rfl, rfl, hg_2422⟩) rfl (e_ldf (sz := 10) (E := 30) (R := R_T_api_Bond) (i := 1) (o := 9) (iv := x_17) (l := x_2) tk rfl rfl e_x_3703 rfl (by kernel_rfl) (by kernel_rfl) rfl) (by kernel_rfl) rfl (by kernel_rfl) ?_
                                       exact SD.vie D_21 [.g 0, .g 1, .g 2] c_2422_1 (by kernel_rfl)
                                     · refine SW.eff D_21 (i := 21) (bs' := [I, I, I, I, I, I, I, I, I, I, I, I, I, I, I, I, O, I, I, I, I, I, O, O, O, O, O, O, O]) rfl (.inr ⟨_, _, _, _, rfl, rfl, rfl, hg_2422⟩) rfl (e_ldf (sz := 10) (E := 30) (R := R_T_api_Bond) (i := 1) (o := 9) (iv := x_12) (l := x_2) tk rfl rfl e_x_4103 rfl (by kernel_rfl) (by kernel_rfl) rfl) (by kernel_rfl) rfl (by kernel_rfl) ?_
                                       exact SD.vie D_21 [.g 0, .g 1, .g 2] c_2422_4 (by kernel_rfl)
                                   · refine SD.lay 10 [I, I, I, I, I, I, I, I, I, I, I, I, I, I, I, I, O, I, I, I, O, O, O, O, O, O, O, O, O] [(0, vs 1), (6, vs 2), (7, vi .i64 x_12), (8, vi .i64 x_16), (9, vi .i64 x_17), (59, vb (decide (x_342.Used < x_742.Used))), (60, vs 1), (61, vi .i64 x_17), (62, vp 1 (x_17.toNat * 10)), (63, vp 1 (x_17.toNat * 10 + 9)), (65, vs 1), (66, vi .i64 x_12), (67, vp 1 (x_12.toNat * 10))] [.gone, .own 10 30 R_T_api_Bond x_2, .own 1 3 (RInt .i64) l_11] ?_ (fun c_2422_6 => ?_)
                                     · refine SD.all2 (i := 16) (j := 20) (by kernel_rfl) ?_ ?_
                                       · refine SW.eff D_21 (i := 16) (bs' := [I, I, I, I, I, I, I, I, I, I, I, I, I, I, I, I, I, I, I, I, O, O, O, O, O, O, O, O, O]) rfl (.inr ⟨_, _, _, _, rfl, rfl, rfl, hg_2422⟩) rfl (e_ldf (sz := 10) (E := 30) (R := R_T_api_Bond) (i := 1) (o := 9) (iv := x_17) (l := x_2) tk rfl rfl e_x_3703 rfl (by kernel_rfl) (by kernel_rfl) rfl) (by kernel_rfl) rfl (by kernel_rfl) ?_
                                         exact SD.vie D_21 [.g 0, .g 1, .g 2] c_2422_2 (by kernel_rfl)
                                       · refine SW.eff D_21 (i := 20) (bs' := [I, I, I, I, I, I, I, I, I, I, I, I, I, I, I, I, O, I, I, I, I, O, O, O, O, O, O, O, O]) rfl (.inr ⟨_, _, _, _, rfl, rfl, rfl, hg_2422⟩) rfl (e_fap (off := 9) (iv := x_12) tk rfl rfl e_x_3943 (by kernel_rfl)) (by kernel_rfl) rfl (by kernel_rfl) ?_
                                         exact SD.vie D_21 [.g 0, .g 1, .g 2] c_2422_5 (by kernel_rfl)
                                     · refine SD.lay 11 [I, I, I, I, I, I, I, I, I, I, I, I, I, I, I, I, O, I, I, O, O, O, O, O, O, O, O, O, O] [(0, vs 1), (6, vs 2), (7, vi .i64 x_12), (8, vi .i64 x_16), (9, vi .i64 x_17), (59, vb (decide (x_342.Used < x_742.Used))), (60, vs 1), (61, vi .i64 x_17), (62, vp 1 (x_17.toNat * 10)), (63, vp 1 (x_17.toNat * 10 + 9)), (65, vs 1), (66, vi .i64 x_12)] [.gone, .own 10 30 R_T_api_Bond x_2, .own 1 3 (RInt .i64) l_11] ?_ (fun c_2422_7 => ?_)
                                       · refine SD.all2 (i := 16) (j := 19) (by kernel_rfl) ?_ ?_
                                         · refine SW.eff D_21 (i := 16) (bs' := [I, I, I, I, I, I, I, I, I, I, I, I, I, I, I, I, I, I, I, O, O, O, O, O, O, O, O, O, O]) rfl (.inr ⟨_, _, _, _, rfl, rfl, rfl, hg_2422⟩) rfl (e_ldf (sz := 10) (E := 30) (R := R_T_api_Bond) (i := 1) (o := 9) (iv := x_17) (l := x_2) tk rfl rfl e_x_3703 rfl (by kernel_rfl) (by kernel_rfl) rfl) (by kernel_rfl) rfl (by kernel_rfl) ?_
                                           exact SD.vie D_21 [.g 0, .g 1, .g 2] c_2422_3 (by kernel_rfl)
                                         · refine SW.eff D_21 (i := 19) (bs' := [I, I, I, I, I, I, I, I, I, I, I, I, I, I, I, I, O, I, I, I, O, O, O, O, O, O, O, O, O]) rfl (.inr ⟨_, _, _, _, rfl, rfl, rfl, hg_2422⟩) rfl (e_ixp (sz := 10) (E := 30) (R := R_T_api_Bond) (by_ := 96) (l := x_2) tk rfl rfl rfl e_x_3943 (by kernel_rfl)) (by kernel_rfl) rfl (by kernel_rfl) ?_
                                           exact SD.vie D_21 [.g 0, .g 1, .g 2] c_2422_6 (by kernel_rfl)
                                       · refine SD.lay 9 [I, I, I, I, I, I, I, I, I, I, I, I, I, I, I, O, O, I, I, I, I, I, O, O, O, O, O, O, O] [(0, vs 1), (6, vs 2), (7, vi .i64 x_12), (8, vi .i64 x_16), (9, vi .i64 x_17), (59, vb (decide (x_342.Used < x_742.Used))), (60, vs 1), (61, vi .i64 x_17), (62, vp 1 (x_17.toNat * 10)), (65, vs 1), (66, vi .i64 x_12), (67, vp 1 (x_12.toNat * 10)), (68, vp 1 (x_12.toNat * 10 + 9)), (69, vi .i64 x_4103.Used)] [.gone, .own 10 30 R_T_api_Bond x_2, .own 1 3 (RInt .i64) l_11] ?_ (fun c_2422_8 => ?_)
                                         · refine SD.all1 (i := 15) (by kernel_rfl) ?_
                                           refine SW.eff D_21 (i := 15) (bs' := [I, I, I, I, I, I, I, I, I, I, I, I, I, I, I, I, O, I, I, I, I, I, O, O, O, O, O, O, O]) rfl (.inr ⟨_, _, _, _, rfl, rfl, rfl, hg_2422⟩) rfl (e_fap (off := 9) (iv := x_17) tk rfl rfl e_x_3543 (by kernel_rfl)) (by kernel_rfl) rfl (by kernel_rfl) ?_
                                           exact SD.vie D_21 [.g 0, .g 1, .g 2] c_2422_4 (by kernel_rfl)
                                         · refine SD.lay 10 [I, I, I, I, I, I, I, I, I, I, I, I, I, I, I, O, O, I, I, I, I, O, O, O, O, O, O, O, O] [(0, vs 1), (6, vs 2), (7, vi .i64 x_12), (8, vi .i64 x_16), (9, vi .i64 x_17), (59, vb (decide (x_342.Used < x_742.Used))), (60, vs 1), (61, vi .i64 x_17), (62, vp 1 (x_17.toNat * 10)), (65, vs 1), (66, vi .i64 x_12), (67, vp 1 (x_12.toNat * 10)), (68, vp 1 (x_12.toNat * 10 + 9))] [.gone, .own 10 30 R_T_api_Bond x_2, .own 1 3 (RInt .i64) l_11] ?_ (fun c_2422_9 => ?_)
                                           · refine SD.all2 (i := 15) (j := 21) (by kernel_rfl) ?_ ?_
                                             · refine SW.eff D_21 (i := 15) (bs' := [I, I, I, I, I, I, I, I, I, I, I, I, I, I, I, I, O, I, I, I, I, O, O, O, O, O, O, O, O]) rfl (.inr ⟨_, _, _, _, rfl, rfl, rfl, hg_2422⟩) rfl (e_fap (off := 9) (iv := x_17) tk rfl rfl e_x_3543 (by kernel_rfl)) (by kernel_rfl) rfl (by kernel_rfl) ?_
                                               exact SD.vie D_21 [.g 0, .g 1, .g 2] c_2422_5 (by kernel_rfl)
                                             · refine SW.eff D_21 (i := 21) (bs' := [I, I, I, I, I, I, I, I, I, I, I, I, I, I, I, O, O, I, I, I, I, I, O, O, O, O, O, O, O]) rfl (.inr ⟨_, _, _, _, rfl, rfl, rfl, hg_2422⟩) rfl (e_ldf (sz := 10) (E := 30) (R := R_T_api_Bond) (i := 1) (o := 9) (iv := x_12) (l := x_2) tk rfl rfl e_x_4103 rfl (by kernel_rfl) (by kernel_rfl) rfl) (by kernel_rfl) rfl (by kernel_rfl) ?_
                                               exact SD.vie D_21 [.g 0, .g 1, .g 2] c_2422_8 (by kernel_rfl)
                                           · refine SD.lay 11 [I, I, I, I, I, I, I, I, I, I, I, I, I, I, I, O, O, I, I, I, O, O, O, O, O, O, O, O, O] [(0, vs 1), (6, vs 2), (7, vi .i64 x_12), (8, vi .i64 x_16), (9, vi .i64 x_17), (59, vb (decide (x_342.Used < x_742.Used))), (60, vs 1), (61, vi .i64 x_17), (62, vp 1 (x_17.toNat * 10)), (65, vs 1), (66, vi .i64 x_12), (67, vp 1 (x_12.toNat * 10))] [.gone, .own 10 30 R_T_api_Bond x_2, .own 1 3 (RInt .i64) l_11] ?_ (fun c_2422_10 => ?_)
                                             · refine SD.all2 (i := 15) (j := 20) (by kernel_rfl) ?_ ?_
                                               · refine SW.eff D_21 (i := 15) (bs' := [I, I, I, I, I, I, I, I, I, I, I, I, I, I, I, I, O, I, I, I, O, O, O, O, O, O, O, O, O]) rfl (.inr ⟨_, _, _, _, rfl, rfl, rfl, hg_2422⟩) rfl (e_fap (off := 9) (iv := x_17) tk rfl rfl e_x_3543 (by kernel_rfl)) (by kernel_rfl) rfl (by kernel_rfl) ?_
                                                 exact SD.vie D_21 [.g 0, .g 1, .g 2] c_2422_6 (by kernel_rfl)
                                               · refine SW.eff D_21 (i := 20) (bs' := [I, I, I, I, I, I, I, I, I, I, I, I, I, I, I, O, O, I, I, I, I, O, O, O, O, O, O, O, O]) rfl (.inr ⟨_, _, _, _, rfl, rfl, rfl, hg_2422⟩) rfl (e_fap (off := 9) (iv := x_12) tk rfl rfl e_x_3943 (by kernel_rfl)) (by kernel_rfl) rfl (by kernel_rfl) ?_
                                                 exact SD.vie D_21 [.g 0, .g 1, .g 2] c_2422_9 (by kernel_rfl)
                                             · refine SD.lay 12 [I, I, I, I, I, I, I, I, I, I, I, I, I, I, I, O, O, I, I, O, O, O, O, O, O, O, O, O, O] [(0, vs 1), (6, vs 2), (7, vi .i64 x_12), (8, vi .i64 x_16), (9, vi .i64 x_17), (59, vb (decide (x_342.Used < x_742.Used))), (60, vs 1), (61, vi .i64 x_17), (62, vp 1 (x_17.toNat * 10)), (65, vs 1), (66, vi .i64 x_12)] [.gone, .own 10 30 R_T_api_Bond x_2, .own 1 3 (RInt .i64) l_11] ?_ (fun c_2422_11 => ?_)
                                               · refine SD.all2 (i := 15) (j := 19) (by kernel_rfl) ?_ ?_
                                                 · refine SW.eff D_21 (i := 15) (bs' := [I, I, I, I, I, I, I, I, I, I, I, I, I, I, I, I, O, I, I, O, O, O, O, O, O, O, O, O, O]) rfl (.inr ⟨_, _, _, _, rfl, rfl, rfl, hg_2422⟩) rfl (e_fap (off := 9) (iv := x_17) tk rfl rfl e_x_3543 (by kernel_rfl)) (by kernel_rfl) rfl (by kernel_rfl) ?_
                                                   exact SD.vie D_21 [.g 0, .g 1, .g 2] c_2422_7 (by kernel_rfl)
                                                 · refine SW.eff D_21 (i := 19) (bs' := [I, I, I, I, I, I, I, I, I, I, I, I, I, I, I, O, O, I, I, I, O, O, O, O, O, O, O, O, O]) rfl (.inr ⟨_, _, _, _, rfl, rfl, rfl, hg_2422⟩) rfl (e_ixp (sz := 10) (E := 30) (R := R_T_api_Bond) (by_ := 96) (l := x_2) tk rfl rfl rfl e_x_3943 (by kernel_rfl)) (by kernel_rfl) rfl (by kernel_rfl) ?_
                                                   exact SD.vie D_21 [.g 0, .g 1, .g 2] c_2422_10 (by kernel_rfl)
                                               · refine SD.lay 10 [I, I, I, I, I, I, I, I, I, I, I, I, I, I, O, O, O, I, I, I, I, I, O, O, O, O, O, O, O] [(0, vs 1), (6, vs 2), (7, vi .i64 x_12), (8, vi .i64 x_16), (9, vi .i64 x_17), (59, vb (decide (x_342.Used < x_742.Used))), (60, vs 1), (61, vi .i64 x_17), (65, vs 1), (66, vi .i64 x_12), (67, vp 1 (x_12.toNat * 10)), (68, vp 1 (x_12.toNat * 10 + 9)), (69, vi .i64 x_4103.Used)] [.gone, .own 10 30 R_T_api_Bond x_2, .own 1 3 (RInt .i64) l_11] ?_ (fun c_2422_12 => ?_)
                                                 · refine SD.all1 (i := 14) (by kernel_rfl) ?_
                                                   refine SW.eff D_21 (i := 14) (bs' := [I, I, I, I, I, I, I, I, I, I, I, I, I, I, I, O, O, I, I, I, I, I, O, O, O, O, O, O, O]) rfl (.inr ⟨_, _, _, _, rfl, rfl, rfl, hg_2422⟩) rfl (e_ixp (sz := 10) (E := 30) (R := R_T_api_Bond) (by_ := 96) (l := x_2) tk rfl rfl rfl e_x_3543 (by kernel_rfl)) (by kernel_rfl) rfl (by kernel_rfl) ?_
                                                   exact SD.vie D_21 [.g 0, .g 1, .g 2] c_2422_8 (by kernel_rfl)
                                                 · refine SD.lay 11 [I, I, I, I, I, I, I, I, I, I, I, I, I, I, O, O, O, I, I, I, I, O, O, O, O, O, O, O, O] [(0, vs 1), (6, vs 2), (7, vi .i64 x_12), (8, vi .i64 x_16), (9, vi .i64 x_17), (59, vb (decide (x_342.Used < x_742.Used))), (60, vs 1), (61, vi .i64 x_17), (65, vs 1), (66, vi .i64 x_12), (67, vp 1 (x_12.toNat * 10)), (68, vp 1 (x_12.toNat * 10 + 9))] [.gone, .own 10 30 R_T_api_Bond x_2, .own 1 3 (RInt .i64) l_11] ?_ (fun c_2422_13 => ?_)
                                                   · refine SD.all2 (i := 14) (j := 21) (by kernel_rfl) ?_ ?_
                                                     · refine SW.eff D_21 (i := 14) (bs' := [I, I, I, I, I, I, I, I, I, I, I, I, I, I, I, O, O, I, I, I, I, O, O, O, O, O, O, O, O]) rfl (.inr ⟨_, _, _, _, rfl, rfl, rfl, hg_2422⟩) rfl (e_ixp (sz := 10) (E := 30) (R := R_T_api_Bond) (by_ := 96) (l := x_2) tk rfl rfl rfl e_x_3543 (by kernel_rfl)) (by kernel_rfl) rfl (by kernel_rfl) ?_
                                                       exact SD.vie D_21 [.g 0, .g 1, .g 2] c_2422_9 (by kernel_rfl)
                                                     · refine SW.eff D_21 (i := 21) (bs' := [I, I, I, I, I, I, I, I, I, I, I, I, I, I, O, O, O, I, I, I, I, I, O, O, O, O, O, O, O]) rfl (.inr ⟨_, _, _, _, rfl, rfl, rfl, hg_2422⟩) rfl (e_ldf (sz := 10) (E := 30) (R := R_T_api_Bond) (i := 1) (o := 9) (iv := x_12) (l := x_2) tk rfl rfl e_x_4103 rfl (by kernel_rfl) (by kernel_rfl) rfl) (by kernel_rfl) rfl (by kernel_rfl) ?_
                                                       exact SD.vie D_21 [.g 0, .g 1, .g 2] c_2422_12 (by kernel_rfl)
                                                   · refine SD.lay 12 [I, I, I, I, I, I, I, I, I, I, I, I, I, I, O, O, O, I, I, I, O, O, O, O, O, O, O, O, O] [(0, vs 1), (6, vs 2), (7, vi .i64 x_12), (8, vi .i64 x_16), (9, vi .i64 x_17), (59, vb (decide (x_342.Used < x_742.Used))), (60, vs 1), (61, vi .i64 x_17), (65, vs 1), (66, vi .i64 x_12), (67, vp 1 (x_12.toNat * 10))] [.gone, .own 10 30 R_T_api_Bond x_2, .own 1 3 (RInt .i64) l_11] ?_ (fun c_2422_14 => ?_)
                                                     · refine SD.all2 (i := 14) (j := 20) (by kernel_rfl) ?_ ?_
                                                       · refine SW.eff D_21 (i := 14) (bs' := [I, I, I, I, I, I, I, I, I, I, I, I, I, I, I, O, O, I, I, I, O, O, O, O, O, O, O, O, O]) rfl (.inr ⟨_, _, _, _, rfl, rfl, rfl, hg_2422⟩) rfl (e_ixp (sz := 10) (E := 30) (R := R_T_api_Bond) (by_ := 96) (l := x_2) tk rfl rfl rfl e_x_3543 (by kernel_rfl)) (by kernel_rfl) rfl (by kernel_rfl) ?_
                                                         exact SD.vie D_21 [.g 0, .g 1, .g 2] c_2422_10 (by kernel_rfl)
                                                       · refine SW.eff D_21 (i := 20) (bs' := [I, I, I, I, I, I, I, I, I, I, I, I, I, I, O, O, O, I, I, I, I, O, O, O, O, O, O, O, O]) rfl (.inr ⟨_, _, _, _, rfl, rfl, rfl, hg_2422⟩) rfl (e_fap (off := 9) (iv := x_12) tk rfl rfl e_x_3943 (by kernel_rfl)) (by kernel_rfl) rfl (by kernel_rfl) ?_
                                                         exact SD.vie D_21 [.g 0, .g 1, .g 2] c_2422_13 (by kernel_rfl)
                                                     · refine SD.all2 (i := 14) (j := 19) (by kernel_rfl) ?_ ?_
                                                       · refine SW.eff D_21 (i := 14) (bs' := [I, I, I, I, I, I, I, I, I, I, I, I, I, I, I, O, O, I, I, O, O, O, O, O, O, O, O, O, O]) rfl (.inr ⟨_, _, _, _, rfl, rfl, rfl, hg_2422⟩) rfl (e_ixp (sz := 10) (E := 30) (R := R_T_api_Bond) (by_ := 96) (l := x_2) tk rfl rfl rfl e_x_3543 (by kernel_rfl)) (by kernel_rfl) rfl (by kernel_rfl) ?_
                                                         exact SD.vie D_21 [.g 0, .g 1, .g 2] c_2422_11 (by kernel_rfl)
                                                       · refine SW.eff D_21 (i := 19) (bs' := [I, I, I, I, I, I, I, I, I, I, I, I, I, I, O, O, O, I, I, I, O, O, O, O, O, O, O, O, O]) rfl (.inr ⟨_, _, _, _, rfl, rfl, rfl, hg_2422⟩) rfl (e_ixp (sz := 10) (E := 30) (R := R_T_api_Bond) (by_ := 96) (l := x_2) tk rfl rfl rfl e_x_3943 (by kernel_rfl)) (by kernel_rfl) rfl (by kernel_rfl) ?_
                                                         exact SD.vie D_21 [.g 0, .g 1, .g 2] c_2422_14 (by kernel_rfl)
                     · refine SD.lay 20 [I, I, I, I, I, I, I, I, I, O, O, O, O, O, O, O, O, O, O, O, O, O, O, O, O, O, O, O, O] [(0, vs 1), (6, vs 2), (7, vi .i64 x_12), (8, vi .i64 x_16), (9, vi .i64 x_17), (52, vi .i64 x_342.Used), (56, vp 1 (x_12.toNat * 10 + 9))] [.gone, .own 10 30 R_T_api_Bond x_2, .own 1 3 (RInt .i64) l_11] ?_ (fun c_21_1 => ?_)
                       · refine SD.all1 (i := 9) (by kernel_rfl) ?_
                         refine SW.eff D_21 (i := 9) (bs' := [I, I, I, I, I, I, I, I, I, I, O, O, O, O, O, O, O, O, O, O, O, O, O, O, O, O, O, O, O]) rfl (.inl rfl) rfl (e_ldf (sz := 10) (E := 30) (R := R_T_api_Bond) (i := 1) (o := 9) (iv := x_12) (l := x_2) tk rfl rfl e_x_742 rfl (by kernel_rfl) (by kernel_rfl) rfl) (by kernel_rfl) rfl (by kernel_rfl) ?_
                         refine SD.takes tk D_21 [] kn0 [10, 11] [] [] [I, I, I, I, I, I, I, I, I, I, I, I, O, O, O, O, O, O, O, O, O, O, O, O, O, O, O, O, O] [(0, vs 1), (6, vs 2), (7, vi .i64 x_12), (8, vi .i64 x_16), (9, vi .i64 x_17), (59, vb (decide (x_342.Used < x_742.Used)))] rfl (by kernel_rfl) (by kernel_rfl) (by kernel_rfl) ?_
                         exact SD.vie D_21 [.g 0, .g 1, .g 2] c_21_0 (by kernel_rfl)
                       · refine SD.lay 21 [I, I, I, I, I, I, I, I, O, O, O, O, O, O, O, O, O, O, O, O, O, O, O, O, O, O, O, O, O] [(0, vs 1), (6, vs 2), (7, vi .i64 x_12), (8, vi .i64 x_16), (9, vi .i64 x_17), (52, vi .i64 x_342.Used), (55, vp 1 (x_12.toNat * 10))] [.gone, .own 10 30 R_T_api_Bond x_2, .own 1 3 (RInt .i64) l_11] ?_ (fun c_21_2 => ?_)
                         · refine SD.all1 (i := 8) (by kernel_rfl) ?_
                           refine SW.eff D_21 (i := 8) (bs' := [I, I, I, I, I, I, I, I, I, O, O, O, O, O, O, O, O, O, O, O, O, O, O, O, O, O, O, O, O]) rfl (.inl rfl) rfl (e_fap (off := 9) (iv := x_12) tk rfl rfl e_x_582 (by kernel_rfl)) (by kernel_rfl) rfl (by kernel_rfl) ?_
                           exact SD.vie D_21 [.g 0, .g 1, .g 2] c_21_1 (by kernel_rfl)
                         · refine SD.lay 22 [I, I, I, I, I, I, I, O, O, O, O, O, O, O, O, O, O, O, O, O, O, O, O, O, O, O, O, O, O] [(0, vs 1), (6, vs 2), (7, vi .i64 x_12), (8, vi .i64 x_16), (9, vi .i64 x_17), (52, vi .i64 x_342.Used), (53, vs 1), (54, vi .i64 x_12)] [.gone, .own 10 30 R_T_api_Bond x_2, .own 1 3 (RInt .i64) l_11] ?_ (fun c_21_3 => ?_)
                           · refine SD.all1 (i := 7) (by kernel_rfl) ?_
                             refine SW.eff D_21 (i := 7) (bs' := [I, I, I, I, I, I, I, I, O, O, O, O, O, O, O, O, O, O, O, O, O, O, O, O, O, O, O, O, O]) rfl (.inl rfl) rfl (e_ixp (sz := 10) (E := 30) (R := R_T_api_Bond) (by_ := 96) (l := x_2) tk rfl rfl rfl e_x_582 (by kernel_rfl)) (by kernel_rfl) rfl (by kernel_rfl) ?_
                             exact SD.vie D_21 [.g 0, .g 1, .g 2] c_21_2 (by kernel_rfl)
                           · refine SD.lay 20 [I, I, I, I, O, I, I, I, I, I, O, O, O, O, O, O, O, O, O, O, O, O, O, O, O, O, O, O, O] [(0, vs 1), (6, vs 2), (7, vi .i64 x_12), (8, vi .i64 x_16), (9, vi .i64 x_17), (51, vp 1 (x_17.toNat * 10 + 9)), (57, vi .i64 x_742.Used)] [.gone, .own 10 30 R_T_api_Bond x_2, .own 1 3 (RInt .i64) l_11] ?_ (fun c_21_4 => ?_)
                             · refine SD.all1 (i := 4) (by kernel_rfl) ?_
                               refine SW.eff D_21 (i := 4) (bs' := [I, I, I, I, I, I, I, I, I, I, O, O, O, O, O, O, O, O, O, O, O, O, O, O, O, O, O, O, O]) rfl (.inl rfl) rfl (e_ldf (sz := 10) (E := 30) (R := R_T_api_Bond) (i := 1) (o := 9) (iv := x_17) (l := x_2) tk rfl rfl e_x_342 rfl (by kernel_rfl) (by kernel_rfl) rfl) (by kernel_rfl) rfl (by kernel_rfl) ?_
                               refine SD.takes tk D_21 [] kn0 [10, 11] [] [] [I, I, I, I, I, I, I, I, I, I, I, I, O, O, O, O, O, O, O, O, O, O, O, O, O, O, O, O, O] [(0, vs 1), (6, vs 2), (7, vi .i64 x_12), (8, vi .i64 x_16), (9, vi .i64 x_17), (59, vb (decide (x_342.Used < x_742.Used)))] rfl (by kernel_rfl) (by kernel_rfl) (by kernel_rfl) ?_
                               exact SD.vie D_21 [.g 0, .g 1, .g 2] c_21_0 (by kernel_rfl)
                             · refine SD.lay 21 [I, I, I, I, O, I, I, I, I, O, O, O, O, O, O, O, O, O, O, O, O, O, O, O, O, O, O, O, O] [(0, vs 1), (6, vs 2), (7, vi .i64 x_12), (8, vi .i64 x_16), (9, vi .i64 x_17), (51, vp 1 (x_17.toNat * 10 + 9)), (56, vp 1 (x_12.toNat * 10 + 9))] [.gone, .own 10 30 R_T_api_Bond x_2, .own 1 3 (RInt .i64) l_11] ?_ (fun c_21_5 => ?_)
                               · refine SD.all2 (i := 4) (j := 9) (by kernel_rfl) ?_ ?_
                                 · refine SW.eff D_21 (i := 4) (bs' := [I, I, I, I, I, I, I, I, I, O, O, O, O, O, O, O, O, O, O, O, O, O, O, O, O, O, O, O, O]) rfl (.inl rfl) rfl (e_ldf (sz := 10) (E := 30) (R := R_T_api_Bond) (i := 1) (o := 9) (iv := x_17) (l := x_2) tk rfl rfl e_x_342 rfl (by kernel_rfl) (by kernel_rfl) rfl) (by kernel_rfl) rfl (by kernel_rfl) ?_
                                   exact SD.vie D_21 [.g 0, .g 1, .g 2] c_21_1 (by kernel_rfl)
                                 · refine SW.eff D_21 (i := 9) (bs' := [I, I, I, I, O, I, I, I, I, I, O, O, O, O, O, O, O, O, O, O, O, O, O, O, O, O, O, O, O]) rfl (.inl rfl) rfl (e_ldf (sz := 10) (E := 30) (R := R_T_api_Bond) (i := 1) (o := 9) (iv := x_12) (l := x_2) tk rfl rfl e_x_742 rfl (by kernel_rfl) (by kernel_rfl) rfl) (by kernel_rfl) rfl (by kernel_rfl) ?_
                                   exact SD.vie D_21 [.g 0, .g 1, .g 2] c_21_4 (by kernel_rfl)
                               · refine SD.lay 22 [I, I, I, I, O, I, I, I, O, O, O, O, O, O, O, O, O, O, O, O, O, O, O, O, O, O, O, O, O] [(0, vs 1), (6, vs 2), (7, vi .i64 x_12), (8, vi .i64 x_16), (9, vi .i64 x_17), (51, vp 1 (x_17.toNat * 10 + 9)), (55, vp 1 (x_12.toNat * 10))] [.gone, .own 10 30 R_T_api_Bond x_2, .own 1 3 (RInt .i64) l_11] ?_ (fun c_21_6 => ?_)
                                 · refine SD.all2 (i := 4) (j := 8) (by kernel_rfl) ?_ ?_
                                   · refine SW.eff D_21 (i := 4) (bs' := [I, I, I, I, I, I, I, I, O, O, O, O, O, O, O, O, O, O, O, O, O, O, O, O, O, O, O, O, O]) rfl (.inl rfl) rfl (e_ldf (sz := 10) (E := 30) (R := R_T_api_Bond) (i := 1) (o := 9) (iv := x_17) (l := x_2) tk rfl rfl e_x_342 rfl (by kernel_rfl) (by kernel_rfl) rfl) (by kernel_rfl) rfl (by kernel_rfl) ?_
                                     exact SD.vie D_21 [.g 0, .g 1, .g 2] c_21_2 (by kernel_rfl)
                                   · refine SW.eff D_21 (i := 8) (bs' := [I, I, I, I, O, I, I, I, I, O, O, O, O, O, O, O, O, O, O, O, O, O, O, O, O, O, O, O, O]) rfl (.inl rfl) rfl (e_fap (off := 9) (iv := x_12) tk rfl rfl e_x_582 (by kernel_rfl)) (by kernel_rfl) rfl (by kernel_rfl) ?_
                                     exact SD.vie D_21 [.g 0, .g 1, .g 2] c_21_5 (by kernel_rfl)
                                 · refine SD.lay 23 [I, I, I, I, O, I, I, O, O, O, O, O, O, O, O, O, O, O, O, O, O, O, O, O, O, O, O, O, O] [(0, vs 1), (6, vs 2), (7, vi .i64 x_12), (8, vi .i64 x_16), (9, vi .i64 x_17), (51, vp 1 (x_17.toNat * 10 + 9)), (53, vs 1), (54, vi .i64 x_12)] [.gone, .own 10 30 R_T_api_Bond x_2, .own 1 3 (RInt .i64) l_11] ?_ (fun c_21_7 => ?_)
                                   · refine SD.all2 (i := 4) (j := 7) (by kernel_rfl) ?_ ?_
                                     · refine SW.eff D_21 (i := 4) (bs' := [I, I, I, I, I, I, I, O, O, O, O, O, O, O, O, O, O, O, O, O, O, O, O, O, O, O, O, O, O]) rfl (.inl rfl) rfl (e_ldf (sz := 10) (E := 30) (R := R_T_api_Bond) (i := 1) (o := 9) (iv := x_17) (l := x_2) tk rfl rfl e_x_342 rfl (by kernel_rfl) (by kernel_rfl) rfl) (by kernel_rfl) rfl (by kernel_rfl) ?_
                                       exact SD.vie D_21 [.g 0, .g 1, .g 2] c_21_3 (by kernel_rfl)
                                     · refine SW.eff D_21 (i := 7) (bs' := [I, I, I, I, O, I, I, I, O, O, O, O, O, O, O, O, O, O, O, O, O, O, O, O, O, O, O, O, O]) rfl (.inl rfl) rfl (e_ixp (sz := 10) (E := 30) (R := R_T_api_Bond) (by_ := 96) (l := x_2) tk rfl rfl rfl e_x_582 (by kernel_rfl)) (by kernel_rfl) rfl (by kernel_rfl) ?_
                                       exact SD.vie D_21 [.g 0, .g 1, .g 2] c_21_6 (by kernel_rfl)
                                   · refine SD.lay 21 [I, I, I, O, O, I, I, I, I, I, O, O, O, O, O, O, O, O, O, O, O, O, O, O, O, O, O, O, O] [(0, vs 1), (6, vs 2), (7, vi .i64 x_12), (8, vi .i64 x_16), (9, vi .i64 x_17), (50, vp 1 (x_17.toNat * 10)), (57, vi .i64 x_742.Used)] [.gone, .own 10 30 R_T_api_Bond x_2, .own 1 3 (RInt .i64) l_11] ?_ (fun c_21_8 => ?_)
                                     · refine SD.all1 (i := 3) (by kernel_rfl) ?_
                                       refine SW.eff D_21 (i := 3) (bs' := [I, I, I, I, O, I, I, I, I, I, O, O, O, O, O, O, O, O, O, O, O, O, O, O, O, O, O, O, O]) rfl (.inl rfl) rfl (e_fap (off := 9) (iv := x_17) tk rfl rfl e_x_182 (by kernel_rfl)) (by kernel_rfl) rfl (by kernel_rfl) ?_
                                       exact SD.vie D_21 [.g 0, .g 1, .g 2] c_21_4 (by kernel_rfl)
                                     · refine SD.lay 22 [I, I, I, O, O, I, I, I, I, O, O, O, O, O, O, O, O, O, O, O, O, O, O, O, O, O, O, O, O] [(0, vs 1), (6, vs 2), (7, vi .i64 x_12), (8, vi .i64 x_16), (9, vi .i64 x_17), (50, vp 1 (x_17.toNat * 10)), (56, vp 1 (x_12.toNat * 10 + 9))] [.gone, .own 10 30 R_T_api_Bond x_2, .own 1 3 (RInt .i64) l_11] ?_ (fun c_21_9 => ?_)
                                       · refine SD.all2 (i := 3) (j := 9) (by kernel_rfl) ?_ ?_
                                         · refine SW.eff D_21 (i := 3) (bs' := [I, I, I, I, O, I, I, I, I, O, O, O, O, O, O, O, O, O, O, O, O, O, O, O, O, O, O, O, O]) rfl (.inl rfl) rfl (e_fap (off := 9) (iv := x_17) tk rfl rfl e_x_182 (by kernel_rfl)) (by kernel_rfl) rfl (by kernel_rfl) ?_
                                           exact SD.vie D_21 [.g 0, .g 1, .g 2] c_21_5 (by kernel_rfl)
                                         · refine SW.eff D_21 (i := 9) (bs' := [I, I, I, O, O, I, I, I, I, I, O, O, O, O, O, O, O, O, O, O, O, O, O, O, O, O, O, O, O]) rfl (.inl rfl) rfl (e_ldf (sz := 10) (E := 30) (R := R_T_api_Bond) (i := 1) (o := 9) (iv := x_12) (l := x_2) tk rfl rfl e_x_742 rfl (by kernel_rfl) (by kernel_rfl) rfl) (by kernel_rfl) rfl (by kernel_rfl) ?_
                                           exact SD.vie D_21 [.g 0, .g 1, .g 2] c_21_8 (by kernel_rfl)
                                       · refine SD.lay 23 [I, I, I, O, O, I, I, I, O, O, O, O, O, O, O, O, O, O, O, O, O, O, O, O, O, O, O, O, O] [(0, vs 1), (6, vs 2), (7, vi .i64 x_12), (8, vi .i64 x_16), (9, vi .i64 x_17), (50, vp 1 (x_17.toNat * 10)), (55, vp 1 (x_12.toNat * 10))] [.gone, .own 10 30 R_T_api_Bond x_2, .own 1 3 (RInt .i64) l_11] ?_ (fun c_21_10 => ?_)
                                         · refine SD.all2 (i := 3) (j := 8) (by kernel_rfl) ?_ ?_
                                           · refine SW.eff D_21 (i := 3) (bs' := [I, I, I, I, O, I, I, I, O, O, O, O, O, O, O, O, O, O, O, O, O, O, O, O, O, O, O, O, O]) rfl (.inl rfl) rfl (e_fap (off := 9) (iv := x_17) tk rfl rfl e_x_182 (by kernel_rfl)) (by kernel_rfl) rfl (by kernel_rfl) ?_
                                             exact SD.vie D_21 [.g 0, .g 1, .g 2] c_21_6 (by kernel_rfl)
                                           · refine SW.eff D_21 (i := 8) (bs' := [I, I, I, O, O, I, I, I, I, O, O, O, O, O, O, O, O, O, O, O, O, O, O, O, O, O, O, O, O]) rfl (.inl rfl) rfl (e_fap (off := 9) (iv := x_12) tk rfl rfl e_x_582 (by kernel_rfl)) (by kernel_rfl) rfl (by kernel_rfl) ?_
                                             exact SD.vie D_21 [.g 0, .g 1, .g 2] c_21_9 (by kernel_rfl)
                                         · refine SD.lay 24 [I, I, I, O, O, I, I, O, O, O, O, O, O, O, O, O, O, O, O, O, O, O, O, O, O, O, O, O, O] [(0, vs 1), (6, vs 2), (7, vi .i64 x_12), (8, vi .i64 x_16), (9, vi .i64 x_17), (50, vp 1 (x_17.toNat * 10)), (53, vs 1), (54, vi .i64 x_12)] [.gone, .own 10 30 R_T_api_Bond x_2, .own 1 3 (RInt .i64) l_11] ?_ (fun c_21_11 => ?_)
                                           · refine SD.all2 (i := 3) (j := 7) (by kernel_rfl) ?_ ?_
                                             · refine SW.eff D_21 (i := 3) (bs' := [I, I, I, I, O, I, I, O, O, O, O, O, O, O, O, O, O, O, O, O, O, O, O, O, O, O, O, O, O]) rfl (.inl rfl) rfl (e_fap (off := 9) (iv := x_17) tk rfl rfl e_x_182 (by kernel_rfl)) (by kernel_rfl) rfl (by kernel_rfl) ?_
                                               exact SD.vie D_21 [.g 0, .g 1, .g 2] c_21_7 (by kernel_rfl)
                                             · refine SW.eff D_21 (i := 7) (bs' := [I, I, I, O, O, I, I, I, O, O, O, O, O, O, O, O, O, O, O, O, O, O, O, O, O, O, O, O, O]) rfl (.inl rfl) rfl (e_ixp (sz := 10) (E := 30) (R := R_T_api_Bond) (by_ := 96) (l := x_2) tk rfl rfl rfl e_x_582 (by kernel_rfl)) (by kernel_rfl) rfl (by kernel_rfl) ?_
                                               exact SD.vie D_21 [.g 0, .g 1, .g 2] c_21_10 (by kernel_rfl)
                                           · refine SD.lay 22 [I, I, O, O, O, I, I, I, I, I, O, O, O, O, O, O, O, O, O, O, O, O, O, O, O, O, O, O, O] [(0, vs 1), (6, vs 2), (7, vi .i64 x_12), (8, vi .i64 x_16), (9, vi .i64 x_17), (48, vs 1), (49, vi .i64 x_17), (57, vi .i64 x_742.Used)] [.gone, .own 10 30 R_T_api_Bond x_2, .own 1 3 (RInt .i64) l_11] ?_ (fun c_21_12 => ?_)
                                             · refine SD.all1 (i := 2) (by kernel_rfl) ?_
                                               refine SW.eff D_21 (i := 2) (bs' := [I, I, I, O, O, I, I, I, I, I, O, O, O, O, O, O, O, O, O, O, O, O, O, O, O, O, O, O, O]) rfl (.inl rfl) rfl (e_ixp (sz := 10) (E := 30) (R := R_T_api_Bond) (by_ := 96) (l := x_2) tk rfl rfl rfl e_x_182 (by kernel_rfl)) (by kernel_rfl) rfl (by kernel_rfl) ?_
                                               exact SD.vie D_21 [.g 0, .g 1, .g 2] c_21_8 (by kernel_rfl)
                                             · refine SD.lay 23 [I, I, O, O, O, I, I, I, I, O, O, O, O, O, O, O, O, O, O, O, O, O, O, O, O, O, O, O, O] [(0, vs 1), (6, vs 2), (7, vi .i64 x_12), (8, vi .i64 x_16), (9, vi .i64 x_17), (48, vs 1), (49, vi .i64 x_17), (56, vp 1 (x_12.toNat * 10 + 9))] [.gone, .own 10 30 R_T_api_Bond x_2, .own 1 3 (RInt .i64) l_11] ?_ (fun c_21_13 => ?_)
                                               · refine SD.all2 (i := 2) (j := 9) (by kernel_rfl) ?_ ?_
                                                 · refine SW.eff D_21 (i := 2) (bs' := [I, I, I, O, O, I, I, I, I, O, O, O, O, O, O, O, O, O, O, O, O, O, O, O, O, O, O, O, O]) rfl (.inl rfl) rfl (e_ixp (sz := 10) (E := 30) (R := R_T_api_Bond) (by_ := 96) (l := x_2) tk rfl rfl rfl e_x_182 (by kernel_rfl)) (by kernel_rfl) rfl (by kernel_rfl) ?_
                                                   exact SD.vie D_21 [.g 0, .g 1, .g 2] c_21_9 (by kernel_rfl)
                                                 · refine SW.eff D_21 (i := 9) (bs' := [I, I, O, O, O, I, I, I, I, I, O, O, O, O, O, O, O, O, O, O, O, O, O, O, O, O, O, O, O]) rfl (.inl rfl) rfl (e_ldf (sz := 10) (E := 30) (R := R_T_api_Bond) (i := 1) (o := 9) (iv := x_12) (l := x_2) tk rfl rfl e_x_742 rfl (by kernel_rfl) (by kernel_rfl) rfl) (by kernel_rfl) rfl (by kernel_rfl) ?_
                                                   exact SD.vie D_21 [.g 0, .g 1, .g 2] c_21_12 (by kernel_rfl)
                                               · refine SD.lay 24 [I, I, O, O, O, I, I, I, O, O, O, O, O, O, O, O, O, O, O, O, O, O, O, O, O, O, O, O, O] [(0, vs 1), (6, vs 2), (7, vi .i64 x_12), (8, vi .i64 x_16), (9, vi .i64 x_17), (48, vs 1), (49, vi .i64 x_17), (55, vp 1 (x_12.toNat * 10))] [.gone, .own 10 30 R_T_api_Bond x_2, .own 1 3 (RInt .i64) l_11] ?_ (fun c_21_14 => ?_)
                                                 · refine SD.all2 (i := 2) (j := 8) (by kernel_rfl) ?_ ?_
                                                   · refine SW.eff D_21 (i := 2) (bs' := [I, I, I, O, O, I, I, I, O, O, O, O, O, O, O, O, O, O, O, O, O, O, O, O, O, O, O, O, O]) rfl (.inl rfl) rfl (e_ixp (sz := 10) (E := 30) (R := R_T_api_Bond) (by_ := 96) (l := x_2) tk rfl rfl rfl e_x_182 (by kernel_rfl)) (by kernel_rfl) rfl (by kernel_rfl) ?_
                                                     exact SD.vie D_21 [.g 0, .g 1, .g 2] c_21_10 (by kernel_rfl)
                                                   · refine SW.eff D_21 (i := 8) (bs' := [I, I, O, O, O, I, I, I, I, O, O, O, O, O, O, O, O, O, O, O, O, O, O, O, O, O, O, O, O]) rfl (.inl rfl) rfl (e_fap (off := 9) (iv := x_12) tk rfl rfl e_x_582 (by kernel_rfl)) (by kernel_rfl) rfl (by kernel_rfl) ?_
                                                     exact SD.vie D_21 [.g 0, .g 1, .g 2] c_21_13 (by kernel_rfl)
                                                 · refine SD.all2 (i := 2) (j := 7) (by kernel_rfl) ?_ ?_
                                                   · refine SW.eff D_21 (i := 2) (bs' := [I, I, I, O, O, I, I, O, O, O, O, O, O, O, O, O, O, O, O, O, O, O, O, O, O, O, O, O, O]) rfl (.inl rfl) rfl (e_ixp (sz := 10) (E := 30) (R := R_T_api_Bond) (by_ := 96) (l := x_2) tk rfl rfl rfl e_x_182 (by kernel_rfl)) (by kernel_rfl) rfl (by kernel_rfl) ?_
                                                     exact SD.vie D_21 [.g 0, .g 1, .g 2] c_21_11 (by kernel_rfl)
                                                   · refine SW.eff D_21 (i := 7) (bs' := [I, I, O, O, O, I, I, I, O, O, O, O, O, O, O, O, O, O, O, O, O, O, O, O, O, O, O, O, O]) rfl (.inl rfl) rfl (e_ixp (sz := 10) (E := 30) (R := R_T_api_Bond) (by_ := 96) (l := x_2) tk rfl rfl rfl e_x_582 (by kernel_rfl)) (by kernel_rfl) rfl (by kernel_rfl) ?_
                                                     exact SD.vie D_21 [.g 0, .g 1, .g 2] c_21_14 (by kernel_rfl)
                   · rintro a w ⟨z_19, hp, h⟩
                     refine h.go ?_
                     refine SC.if' rfl hp (fun hp => ?_) (fun hp => ?_)
                     · refine SC.reg ?_
                       refine SL.sim tk 3 [(0, vs 1), (6, vs 2), (7, vi .i64 x_12), (8, vi .i64 (w64 (x_16 + 1))), (9, vi .i64 x_17)] [] [] [] (by kernel_rfl) ?_
                       refine SL.nilJ fun a w h => ?_
                       exact ⟨w64 (x_16 + 1), hp, h.at (js := [.g 0, .g 1, .g 2]) (by kernel_rfl)⟩
                     · refine SC.skipJ fun a w h => ?_
                       exact ⟨x_16, hp, h.at (js := [.g 0, .g 1, .g 2]) (by kernel_rfl)⟩
                 · rintro a w ⟨x_18, hp, h⟩
                   refine h.go ?_
                   refine SC.reg ?_
                   refine SL.sim tk 3 [(0, vs 1), (6, vs 2), (7, vi .i64 x_12), (8, vi .i64 x_18), (9, vi .i64 (w64 (x_17 + 1)))] [] [] [] (by kernel_rfl) ?_
                   refine SL.nilJ fun a w h => ?_
                   exact ⟨n3, Nat.lt_succ_self _, x_18, w64 (x_17 + 1), next_inv hp hs3, h.at (js := [.g 0, .g 1, .g 2]) (by kernel_rfl)⟩
               · refine SC.exitJ rfl fun a w h => ?_
                 have ho := done_inv hp hs3
                 replace hp := ho3
                 try rw [ho] at hp
                 exact ⟨x_16, hp, h.at (js := [.g 0, .g 1, .g 2]) (by kernel_rfl)⟩
             · rintro a w ⟨x_14, hp, h⟩
               refine h.go ?_
               refine SC.reg ?_
               refine SL.sim tk 2 [(0, vs 1), (6, vs 2), (7, vi .i64 x_12), (79, vs 2), (80, vi .i64 x_14)] [] [] [] (by kernel_rfl) ?_
               refine SL.eff (e_lit (sz := 1) (E := 3) (R := (RInt .i64)) (by_ := 8) tk [[ci .i64 x_14]] [x_14] (by kernel_rfl) ⟨Clo.int, trivial⟩ rfl (by kernel_rfl) (by kernel_rfl)) rfl (by kernel_rfl) ?_
               obtain ⟨l_15, e_l_15, hp⟩ := bind_inv hp
               refine SL.eff (e_app (i := 2) (l := l_11) (sz := 1) (E := 3) (R := (RInt .i64)) (by_ := 8) (m := [x_14]) tk rfl (by kernel_rfl) rfl (.o 3 (by kernel_rfl)) e_l_15 (by kernel_rfl)) rfl (by kernel_rfl) ?_
               refine SL.sim tk 1 [(0, vs 1), (6, vs 4), (7, vi .i64 x_12)] [] [] [] (by kernel_rfl) ?_
               refine SL.nilJ fun a w h => ?_
               exact ⟨l_15, hp, h.at (js := [.g 0, .g 1, .g 4]) (by kernel_rfl)⟩
           · rintro a w ⟨l_13, hp, h⟩
             refine h.go ?_
             refine SC.reg ?_
             refine SL.sim tk 3 [(0, vs 1), (6, vs 2), (7, vi .i64 (w64 (x_12 + 1)))] [] [] [] (by kernel_rfl) ?_
             refine SL.nilJ fun a w h => ?_
             exact ⟨n2, Nat.lt_succ_self _, l_13, w64 (x_12 + 1), next_inv hp hs2, h.at (js := [.g 0, .g 1, .g 2]) (by kernel_rfl)⟩
         · refine SC.exitJ rfl fun a w h => ?_
           have ho := done_inv hp hs2
           replace hp := ho2
           try rw [ho] at hp
           exact ⟨l_11, hp, h.at (js := [.g 0, .g 1, .g 2]) (by kernel_rfl)⟩
       · rintro a w ⟨l_4, hp, h⟩
         refine h.go ?_
         refine SC.cut (fun a w => ∃ (l_5 : (List T_api_Bond)), wirelessref40_recent_j3 F l_5 = some r ∧ A 100 1 fx [(0, vs 1)] [.gone, .own 10 30 R_T_api_Bond l_5] a w) ?_ ?_
         · refine SC.r tk [(0, vs 1), (6, vs 2), (10, vi .i64 0)] [] [] [] (by kernel_rfl) ?_
           refine SC.block ?_
           obtain ⟨o1, hi1, ho1⟩ := bind_inv hp
           clear hp
           refine SC.loop (fun n a w => ∃ (l_6 : (List T_api_Bond)) (x_7 : Int), iter (fun s => wirelessref40_recent_l1 F l_4 s.1 s.2) n (l_6, x_7) = some o1 ∧ A 100 1 fx [(0, vs 1), (6, vs 2), (10, vi .i64 x_7)] [.gone, .own 10 30 R_T_api_Bond l_6, .own 1 3 (RInt .i64) l_4] a w) F (fun a w h => ⟨x_2, 0, hi1, h.at (js := [.g 0, .g 1, .g 2]) (by kernel_rfl)⟩) ?_
           rintro n1 a w ⟨l_6, x_7, hi1, h⟩
           obtain ⟨n1, q1, rfl, hp, hs1⟩ := iter_inv hi1
           replace hp : wirelessref40_recent_l1 F l_4 l_6 x_7 = some q1 := hp
           clear hi1
           refine h.go ?_
           refine SC.seq ?_
           refine SC.r tk [(0, vs 1), (6, vs 2), (10, vi .i64 x_7), (86, vb (decide (x_7 < (len l_6))))] [] [] [] (by kernel_rfl) ?_
           refine SC.if' rfl hp (fun hp => ?_) (fun hp => ?_)
           · refine SC.skipThen ?_
             refine SC.seq ?_
             refine SC.block ?_
             refine SC.reg ?_
             obtain ⟨x_8, e_x_8, hp⟩ := bind_inv hp
             obtain ⟨x_9, e_x_9, hp⟩ := bind_inv hp
             refine SL.pre (pre_ixo (i := 2) (iv := x_7) (sz := 1) (E := 3) (R := (RInt .i64)) (l := l_4) (by kernel_rfl) rfl e_x_8) ?_
             refine SL.pre (pre_ixo (i := 1) (iv := x_7) (sz := 10) (E := 30) (R := R_T_api_Bond) (l := l_6) (by kernel_rfl) rfl e_x_9) ?_
             refine SL.sim tk 8 [(0, vs 1), (6, vs 2), (10, vi .i64 x_7), (94, vi .i64 x_8), (96, vp 4 9)] [] [.el 3, .el 4] [x_7, x_7] (by kernel_rfl) ?_
             obtain ⟨l_10, e_l_10, hp⟩ := bind_inv hp
             refine SL.eff0 (e_updf (sz := 10) (R := R_T_api_Bond) (i := 1) (iv := x_7) (cs1 := (C_api_Bond ({ x_9 with Used := x_8 }) (.s 5))) (e := { x_9 with Used := x_8 }) tk rfl rfl rfl (by kernel_rfl) rfl rfl rfl (clo_T_api_Bond (x := { x_9 with Used := x_8 }) (Clo.sl (by kernel_rfl))) (by kernel_rfl) (by kernel_rfl) e_l_10) ?_
             refine SL.nilThen ?_
             refine SC.reg ?_
             refine SL.sim tk 3 [(0, vs 1), (6, vs 2), (10, vi .i64 (w64 (x_7 + 1)))] [] [] [] (by kernel_rfl) ?_
             refine SL.nilJ fun a w h => ?_
             exact ⟨n1, Nat.lt_succ_self _, l_10, w64 (x_7 + 1), next_inv hp hs1, h.at (js := [.g 0, .g 1, .g 2]) (by kernel_rfl)⟩
           · refine SC.exitJ rfl fun a w h => ?_
             have ho := done_inv hp hs1
             replace hp := ho1
             try rw [ho] at hp
             exact ⟨l_6, hp, h.at (js := [.g 0, .g 1]) (by kernel_rfl)⟩
         · rintro a w ⟨l_5, hp, h⟩
           refine h.go ?_
           refine SC.r tk [(2, vs 1), (3, vi .i64 (len l_5))] [] [] [] (by kernel_rfl) ?_
           obtain rfl := some_inv' hp
           exact SC.re (js := [.g 0, .g 1]) tk (by kernel_rfl)

theorem ok_wirelessref40_Add (F : Nat) (l_1 : (List T_api_Bond)) (b_2 : T_api_Bond) (r : (List T_api_Bond) × Int × Int) (hp : wirelessref40_Add F l_1 b_2 = some r) : Spec Tryd.prog 19 [vs 0, .g (C_api_Bond b_2 (.s 1))] [.rd 10 R_T_api_Bond l_1, .rd 2 R_T_api_Subscription b_2.Subs] (.u [.inl (.s 2), .inl (ci .i64 r.2.1), .inl (ci .i64 r.2.2)]) [.gone, .gone, .rd 10 R_T_api_Bond r.1] := by
 refine Spec.enter Tryd.func19 rfl Tryd.ntmps19 rfl rfl fun fx => ?_
 refine SC.seq ?_
 refine SC.reg ?_
 refine SL.eff (e_box (E := 30) (C_api_Bond b_2 (.s 1)) (by kernel_rfl)) rfl (by kernel_rfl) ?_
 refine SL.sim tk 3 [(0, vs 0), (3, vp 2 0)] [] [] [] (by kernel_rfl) ?_
 refine SL.nilThen ?_
 refine SC.seq ?_
 refine SC.r tk [(0, vs 0), (3, vp 2 0), (14, vb (decide ((len l_1) > 16)))] [] [] [] (by kernel_rfl) ?_
 refine SC.if' rfl hp (fun hp => ?_) (fun hp => ?_)
 · refine SC.seq ?_
   refine SC.reg ?_
   refine SL.sim tk 1 [(15, vs 0)] [] [] [] (by kernel_rfl) ?_
   obtain ⟨x_3, e_x_3, hp⟩ := bind_inv hp
   refine SL.eff (e_c Tryd.call9 (ok_wirelessref40_Copy F l_1 _ e_x_3) [.g 0] [vs 0] (vs 3) (by kernel_rfl) (.inl rfl)) rfl (by kernel_rfl) ?_
   refine SL.sim tk 3 [(4, vs 3), (5, vi .i64 0), (6, vi .i64 4)] [] [] [] (by kernel_rfl) ?_
   refine SL.nilThen ?_
   obtain rfl := some_inv' hp
   exact SC.re (js := [.g 0, .g 1, .z 3]) tk (by kernel_rfl)
 · refine SC.skipThen ?_
   refine SC.seq ?_
   refine SC.reg ?_
   refine SL.sim tk 1 [(0, vs 0), (3, vp 2 0), (17, .g (C_api_Bond b_2 (.s 1)))] [] [] [] (by kernel_rfl) ?_
   obtain ⟨x_4, e_x_4, hp⟩ := bind_inv hp
   refine SL.eff (e_c Tryd.call15 (ok_wirelessref40_Check F b_2 _ e_x_4) [.g 1] [.g (C_api_Bond b_2 (.s 1))] (vi .i64 x_4) (by kernel_rfl) (.inl rfl)) rfl (by kernel_rfl) ?_
   refine SL.sim tk 1 [(0, vs 0), (3, vp 2 0), (7, vi .i64 x_4)] [] [] [] (by kernel_rfl) ?_
   refine SL.nilThen ?_
   refine SC.seq ?_
   refine SC.r tk [(0, vs 0), (3, vp 2 0), (7, vi .i64 x_4), (20, vb (x_4 != 0))] [] [] [] (by kernel_rfl) ?_
   refine SC.if' rfl hp (fun hp => ?_) (fun hp => ?_)
   · refine SC.seq ?_
     refine SC.reg ?_
     refine SL.sim tk 1 [(7, vi .i64 x_4), (21, vs 0)] [] [] [] (by kernel_rfl) ?_
     obtain ⟨x_5, e_x_5, hp⟩ := bind_inv hp
     refine SL.eff (e_c Tryd.call9 (ok_wirelessref40_Copy F l_1 _ e_x_5) [.g 0] [vs 0] (vs 3) (by kernel_rfl) (.inl rfl)) rfl (by kernel_rfl) ?_
     refine SL.norm (itsN := [.rd 10 R_T_api_Bond l_1, .rd 2 R_T_api_Subscription b_2.Subs, .blk 30 (C_api_Bond b_2 (.s 1)), .own 10 30 R_T_api_Bond x_5]) (by kernel_rfl) ?_
     refine SL.sim tk 4 [(4, vs 3), (5, vi .i64 0), (6, vi .i64 x_4)] [] [] [] (by kernel_rfl) ?_
     refine SL.nilThen ?_
     obtain rfl := some_inv' hp
     exact SC.re (js := [.g 0, .g 1, .z 3]) tk (by kernel_rfl)
   · refine SC.skipThen ?_
     refine SC.seq ?_
     refine SC.reg ?_
     refine SL.sim tk 1 [(3, vp 2 0), (25, vs 0)] [] [] [] (by kernel_rfl) ?_
     obtain ⟨x_6, e_x_6, hp⟩ := bind_inv hp
     refine SL.eff (e_c Tryd.call55 (ok_wirelessref40_recent F l_1 _ e_x_6) [.g 0] [vs 0] (.u [.inl (.s 3), .inl (ci .i64 x_6.2)]) (by kernel_rfl) (.inl rfl)) rfl (by kernel_rfl) ?_
     refine SL.norm (itsN := [.rd 10 R_T_api_Bond l_1, .rd 2 R_T_api_Subscription b_2.Subs, .blk 30 (C_api_Bond b_2 (.s 1)), .own 10 30 R_T_api_Bond x_6.1]) (by kernel_rfl) ?_
     refine SL.sim tk 5 [(3, vp 2 0), (8, vs 3), (9, vi .i64 x_6.2)] [] [] [] (by kernel_rfl) ?_
     refine SL.nilThen ?_
     refine SC.seq ?_
     refine SC.reg ?_
     refine SL.sim tk 1 [(3, vp 2 0), (8, vs 3), (9, vi .i64 x_6.2), (29, .g (C_api_Bond b_2 (.s 1)))] [] [] [] (by kernel_rfl) ?_
     refine SL.eff (e_lit (sz := 10) (E := 30) (R := R_T_api_Bond) (by_ := 96) tk [(C_api_Bond b_2 (.s 1))] [b_2] (by kernel_rfl) ⟨(clo_T_api_Bond (x := b_2) (Clo.sl (by kernel_rfl))), trivial⟩ rfl (by kernel_rfl) (by kernel_rfl)) rfl (by kernel_rfl) ?_
     obtain ⟨x_7, e_x_7, hp⟩ := bind_inv hp
     refine SL.pre (pre_frz (i := 4) (sz := 10) (E := 30) (R := R_T_api_Bond) (l := [b_2]) (by kernel_rfl)) ?_
     refine SL.eff (e_c Tryd.call9 (ok_wirelessref40_Copy F [b_2] _ e_x_7) [.g 4] [vs 4] (vs 5) (by kernel_rfl) (.inl rfl)) rfl (by kernel_rfl) ?_
     obtain ⟨x_8, e_x_8, hp⟩ := bind_inv hp
     refine SL.pre (pre_ixo (i := 5) (iv := 0) (sz := 10) (E := 30) (R := R_T_api_Bond) (l := x_7) (by kernel_rfl) rfl e_x_8) ?_
     refine SL.simk tk 3 [(3, vp 2 0), (8, vs 3), (9, vi .i64 x_6.2)] [(2, 30, (C_api_Bond x_8 (.s 7)))] [.el 6] [0] (by kernel_rfl) ?_
     refine SL.nilThen ?_
     refine SC.r tk [(3, vp 2 0), (8, vs 3)] [(2, 30, (C_api_Bond ({ x_8 with Used := x_6.2 }) (.s 7)))] [] [] (by kernel_rfl) ?_
     refine SC.r tk [(3, vp 2 0), (8, vs 3), (10, vi .i64 0)] [] [] [] (by kernel_rfl) ?_
     refine SC.cut (fun a w => ∃ (x_9 : Int), wirelessref40_Add_j1 F x_6 x_8 x_9 = some r ∧ A 85 2 fx [(3, vp 2 0), (8, vs 4), (10, vi .i64 x_9)] [.gone, .gone, .blk 30 (C_api_Bond ({ x_8 with Used := x_6.2 }) (.s 3)), .rd 2 R_T_api_Subscription x_8.Subs, .own 10 30 R_T_api_Bond x_6.1] a w) ?_ ?_
     · refine SC.r tk [(3, vp 2 0), (8, vs 3), (10, vi .i64 0), (11, vi .i64 0)] [] [] [] (by kernel_rfl) ?_
       refine SC.block ?_
       obtain ⟨o1, hi1, ho1⟩ := bind_inv hp
       clear hp
       refine SC.loop (fun n a w => ∃ (x_13 : Int) (x_14 : Int), iter (fun s => wirelessref40_Add_l1 F x_6 x_8 s.1 s.2) n (x_13, x_14) = some o1 ∧ A 85 2 fx [(3, vp 2 0), (8, vs 4), (10, vi .i64 x_13), (11, vi .i64 x_14)] [.gone, .gone, .blk 30 (C_api_Bond ({ x_8 with Used := x_6.2 }) (.s 3)), .rd 2 R_T_api_Subscription x_8.Subs, .own 10 30 R_T_api_Bond x_6.1] a w) F (fun a w h => ⟨0, 0, hi1, h.at (js := [.g 0, .g 1, .g 2, .g 7, .g 3]) (by kernel_rfl)⟩) ?_
       rintro n1 a w ⟨x_13, x_14, hi1, h⟩
       obtain ⟨n1, q1, rfl, hp, hs1⟩ := iter_inv hi1
       replace hp : wirelessref40_Add_l1 F x_6 x_8 x_13 x_14 = some q1 := hp
       clear hi1
       refine h.go ?_
       refine SC.seq ?_
       refine SC.r tk [(3, vp 2 0), (8, vs 4), (10, vi .i64 x_13), (11, vi .i64 x_14), (39, vb (decide (x_14 < (len x_6.1))))] [] [] [] (by kernel_rfl) ?_
       refine SC.if' rfl hp (fun hp => ?_) (fun hp => ?_)
       · refine SC.skipThen ?_
         refine SC.cut (fun a w => ∃ (x_15 : Int), wirelessref40_Add_j2 F x_14 x_15 = some q1 ∧ A 85 2 fx [(3, vp 2 0), (8, vs 4), (10, vi .i64 x_15), (11, vi .i64 x_14)] [.gone, .gone, .blk 30 (C_api_Bond ({ x_8 with Used := x_6.2 }) (.s 3)), .rd 2 R_T_api_Subscription x_8.Subs, .own 10 30 R_T_api_Bond x_6.1] a w) ?_ ?_
         · refine SC.block ?_
           refine SC.seq ?_
           refine SC.cut (fun a w => ∃ (z_16 : Bool), wirelessref40_Add_j3 F x_6 x_8 x_13 x_14 z_16 = some q1 ∧ A 85 2 fx [(3, vp 2 0), (8, vs 4), (10, vi .i64 x_13), (11, vi .i64 x_14), (51, vb z_16)] [.gone, .gone, .blk 30 (C_api_Bond ({ x_8 with Used := x_6.2 }) (.s 3)), .rd 2 R_T_api_Subscription x_8.Subs, .own 10 30 R_T_api_Bond x_6.1] a w) ?_ ?_
           · refine SC.draw MO [false, false, true, true, true] (by kernel_rfl) fun kap_982 D_983 => ?_
             refine SD.takes tk D_983 [] kn0 [0, 1, 6, 7, 8] [] [] [I, I, O, O, O, O, I, I, I, O] [(3, vp 2 0), (8, vs 4), (10, vi .i64 x_13), (11, vi .i64 x_14), (42, vs 4), (43, vi .i64 x_14), (50, .g (C_api_Address x_8.Peer.Address))] rfl (by kernel_rfl) (by kernel_rfl) (by kernel_rfl) ?_
             obtain ⟨x_984, e_x_984, hp⟩ := bind_inv hp
             refine SD.pre (pre_ixo (i := 4) (iv := x_14) (sz := 10) (E := 30) (R := R_T_api_Bond) (l := x_6.1) (by kernel_rfl) rfl e_x_984) ?_
             refine SD.all1 (i := 2) (by kernel_rfl) ?_
             refine SW.eff D_983 (i := 2) (v := vp 5 0) (bs' := [I, I, I, O, O, O, I, I, I, O]) rfl (.inl rfl) rfl (e_valE tk (.el 5) [x_14] (by kernel_rfl)) (by kernel_rfl) rfl (by kernel_rfl) ?_
             refine SD.all1 (i := 3) (by kernel_rfl) ?_
             refine SW.eff D_983 (i := 3) (v := vp 5 0) (bs' := [I, I, I, I, O, O, I, I, I, O]) rfl (.inl rfl) rfl (e_val tk (by kernel_rfl)) (by kernel_rfl) rfl (by kernel_rfl) ?_
             refine SD.norm (itsN := [.gone, .gone, .blk 30 (C_api_Bond ({ x_8 with Used := x_6.2 }) (.s 3)), .rd 2 R_T_api_Subscription x_8.Subs, .own 10 30 R_T_api_Bond x_6.1, .elt (some (4, x_14)) true (C_api_Bond x_984 (.s 6)), .rd 2 R_T_api_Subscription x_984.Subs]) (by kernel_rfl) ?_
             refine SD.all1 (i := 4) (by kernel_rfl) ?_
             refine SW.eff D_983 (i := 4) (v := vp 5 0) (bs' := [I, I, I, I, I, O, I, I, I, O]) rfl (.inl rfl) rfl (e_val tk (by kernel_rfl)) (by kernel_rfl) rfl (by kernel_rfl) ?_
             refine SD.all1 (i := 5) (by kernel_rfl) ?_
             refine SW.eff D_983 (i := 5) (v := .g (C_api_Address x_984.Peer.Address)) (bs' := [I, I, I, I, I, I, I, I, I, O]) rfl (.inl rfl) rfl (e_val tk (by kernel_rfl)) (by kernel_rfl) rfl (by kernel_rfl) ?_
             refine SD.norm (itsN := [.gone, .gone, .blk 30 (C_api_Bond ({ x_8 with Used := x_6.2 }) (.s 3)), .rd 2 R_T_api_Subscription x_8.Subs, .own 10 30 R_T_api_Bond x_6.1, .elt (some (4, x_14)) true (C_api_Bond x_984 (.s 6)), .rd 2 R_T_api_Subscription x_984.Subs]) (by kernel_rfl) ?_
             refine SD.pre (pre_kill) ?_
             refine SD.all1 (i := 9) (by kernel_rfl) ?_
             refine SW.eff D_983 (i := 9) (bs' := [I, I, I, I, I, I, I, I, I, I]) rfl (.inl rfl) rfl (e_eqs tk (cs := (C_api_Address x_984.Peer.Address)) (ds := (C_api_Address x_8.Peer.Address)) [(x_984.Peer.Address.Kind == x_8.Peer.Address.Kind), (x_984.Peer.Address.Bits == x_8.Peer.Address.Bits)] ((x_984.Peer.Address.Kind == x_8.Peer.Address.Kind) && (x_984.Peer.Address.Bits == x_8.Peer.Address.Bits)) rfl rfl (by kernel_rfl) (by kernel_rfl) (by kernel_rfl) (.inl ⟨rfl, (by kernel_rfl)⟩)) (by kernel_rfl) rfl (by kernel_rfl) ?_
             refine SD.done (by kernel_rfl) fun a w h => ?_
             exact ⟨((x_984.Peer.Address.Kind == x_8.Peer.Address.Kind) && (x_984.Peer.Address.Bits == x_8.Peer.Address.Bits)), hp, h.at (js := [.g 0, .g 1, .g 2, .g 3, .g 4]) (by kernel_rfl)⟩
           · rintro a w ⟨z_16, hp, h⟩
             refine h.go ?_
             refine SC.if' rfl hp (fun hp => ?_) (fun hp => ?_)
             · refine SC.seq ?_
               refine SC.reg ?_
               obtain ⟨x_17, e_x_17, hp⟩ := bind_inv hp
               refine SL.pre (pre_ixo (i := 4) (iv := x_14) (sz := 10) (E := 30) (R := R_T_api_Bond) (l := x_6.1) (by kernel_rfl) rfl e_x_17) ?_
               refine SL.sim tk 4 [(8, vs 4), (11, vi .i64 x_14), (54, .g (C_api_Bond ({ x_8 with Used := x_6.2 }) (.s 3))), (55, vp 5 0)] [] [.el 5] [x_14] (by kernel_rfl) ?_
               obtain ⟨l_18, e_l_18, hp⟩ := bind_inv hp
               refine SL.eff0 (e_updf (sz := 10) (R := R_T_api_Bond) (i := 4) (iv := x_14) (cs1 := (C_api_Bond ({ x_8 with Used := x_6.2 }) (.s 3))) (e := { x_8 with Used := x_6.2 }) tk rfl rfl rfl (by kernel_rfl) rfl rfl rfl (clo_T_api_Bond (x := { x_8 with Used := x_6.2 }) (Clo.sl (by kernel_rfl))) (by kernel_rfl) (by kernel_rfl) e_l_18) ?_
               refine SL.nilThen ?_
               refine SC.r tk [(4, vs 4), (5, vi .i64 x_14), (6, vi .i64 0)] [] [] [] (by kernel_rfl) ?_
               have ho := done_inv hp hs1
               replace hp := ho1
               try rw [ho] at hp
               obtain rfl := some_inv' hp
               exact SC.re (js := [.g 0, .g 1, .z 4]) tk (by kernel_rfl)
             · refine SC.skipThen ?_
               refine SC.cut (fun a w => ∃ (z_19 : Bool), wirelessref40_Add_j4 F x_13 x_14 z_19 = some q1 ∧ A 85 2 fx [(3, vp 2 0), (8, vs 4), (10, vi .i64 x_13), (11, vi .i64 x_14), (68, vb z_19)] [.gone, .gone, .blk 30 (C_api_Bond ({ x_8 with Used := x_6.2 }) (.s 3)), .rd 2 R_T_api_Subscription x_8.Subs, .own 10 30 R_T_api_Bond x_6.1] a w) ?_ ?_
               · refine SC.draw MO [false, false, true, true, true] (by kernel_rfl) fun kap_20 D_21 => ?_
                 refine SD.takes tk D_21 [] kn0 [0, 1, 5, 6] [] [] [I, I, O, O, O, I, I, O, O, O, O] [(3, vp 2 0), (8, vs 4), (10, vi .i64 x_13), (11, vi .i64 x_14), (58, vs 4), (59, vi .i64 x_14), (63, vs 4), (64, vi .i64 x_13)] rfl (by kernel_rfl) (by kernel_rfl) (by kernel_rfl) ?_
                 obtain ⟨x_182, e_x_182, hp⟩ := bind_inv hp
                 obtain ⟨x_342, e_x_342, hp⟩ := bind_inv hp
                 obtain ⟨x_582, e_x_582, hp⟩ := bind_inv hp
                 obtain ⟨x_742, e_x_742, hp⟩ := bind_inv hp
                 refine SD.lay 0 [I, I, I, I, I, I, I, I, I, I, I] [(3, vp 2 0), (8, vs 4), (10, vi .i64 x_13), (11, vi .i64 x_14), (68, vb (decide (x_342.Used < x_742.Used)))] [.gone, .gone, .blk 30 (C_api_Bond ({ x_8 with Used := x_6.2 }) (.s 3)), .rd 2 R_T_api_Subscription x_8.Subs, .own 10 30 R_T_api_Bond x_6.1] ?_ (fun c_21_0 => ?_)
                 · refine SD.done (by kernel_rfl) fun a w h => ?_
                   exact ⟨decide (x_342.Used < x_742.Used), hp, h.at (js := [.g 0, .g 1, .g 2, .g 3, .g 4]) (by kernel_rfl)⟩
                 · refine SD.lay 2 [I, I, I, I, I, I, I, I, I, O, O] [(3, vp 2 0), (8, vs 4), (10, vi .i64 x_13), (11, vi .i64 x_14), (62, vi .i64 x_342.Used), (66, vp 4 (x_13.toNat * 10 + 9))] [.gone, .gone, .blk 30 (C_api_Bond ({ x_8 with Used := x_6.2 }) (.s 3)), .rd 2 R_T_api_Subscription x_8.Subs, .own 10 30 R_T_api_Bond x_6.1] ?_ (fun c_21_1 => ?_)
                   · refine SD.all1 (i := 9) (by kernel_rfl) ?_
                     refine SW.eff D_21 (i := 9) (bs' := [I, I, I, I, I, I, I, I, I, I, O]) rfl (.inl rfl) rfl (e_ldf (sz := 10) (E := 30) (R := R_T_api_Bond) (i := 4) (o := 9) (iv := x_13) (l := x_6.1) tk rfl rfl e_x_742 rfl (by kernel_rfl) (by kernel_rfl) rfl) (by kernel_rfl) rfl (by kernel_rfl) ?_
                     refine SD.takes tk D_21 [] kn0 [10] [] [] [I, I, I, I, I, I, I, I, I, I, I] [(3, vp 2 0), (8, vs 4), (10, vi .i64 x_13), (11, vi .i64 x_14), (68, vb (decide (x_342.Used < x_742.Used)))] rfl (by kernel_rfl) (by kernel_rfl) (by kernel_rfl) ?_
                     exact SD.vie D_21 [.g 0, .g 1, .g 2, .g 3, .g 4] c_21_0 (by kernel_rfl)
                   · refine SD.lay 3 [I, I, I, I, I, I, I, I, O, O, O] [(3, vp 2 0), (8, vs 4), (10, vi .i64 x_13), (11, vi .i64 x_14), (62, vi .i64 x_342.Used), (65, vp 4 (x_13.toNat * 10))] [.gone, .gone, .blk 30 (C_api_Bond ({ x_8 with Used := x_6.2 }) (.s 3)), .rd 2 R_T_api_Subscription x_8.Subs, .own 10 30 R_T_api_Bond x_6.1] ?_ (fun c_21_2 => ?_)
                     · refine SD.all1 (i := 8) (by kernel_rfl) ?_
                       refine SW.eff D_21 (i := 8) (bs' := [I, I, I, I, I, I, I, I, I, O, O]) rfl (.inl rfl) rfl (e_fap (off := 9) (iv := x_13) tk rfl rfl e_x_582 (by kernel_rfl)) (by kernel_rfl) rfl (by kernel_rfl) ?_
                       exact SD.vie D_21 [.g 0, .g 1, .g 2, .g 3, .g 4] c_21_1 (by kernel_rfl)
                     · refine SD.lay 4 [I, I, I, I, I, I, I, O, O, O, O] [(3, vp 2 0), (8, vs 4), (10, vi .i64 x_13), (11, vi .i64 x_14), (62, vi .i64 x_342.Used), (63, vs 4), (64, vi .i64 x_13)] [.gone, .gone, .blk 30 (C_api_Bond ({ x_8 with Used := x_6.2 }) (.s 3)), .rd 2 R_T_api_Subscription x_8.Subs, .own 10 30 R_T_api_Bond x_6.1] ?_ (fun c_21_3 => ?_)
                       · refine SD.all1 (i := 7) (by kernel_rfl) ?_
                         refine SW.eff D_21 (i := 7) (bs' := [I, I, I, I, I, I, I, I, O, O, O]) rfl (.inl rfl) rfl (e_ixp (sz := 10) (E := 30) (R := R_T_api_Bond) (by_ := 96) (l := x_6.1) tk rfl rfl rfl e_x_582 (by kernel_rfl)) (by kernel_rfl) rfl (by kernel_rfl) ?_
                         exact SD.vie D_21 [.g 0, .g 1, .g 2, .g 3, .g 4] c_21_2 (by kernel_rfl)
                       · refine SD.lay 2 [I, I, I, I, O, I, I, I, I, I, O] [(3, vp 2 0), (8, vs 4), (10, vi .i64 x_13), (11, vi .i64 x_14), (61, vp 4 (x_14.toNat * 10 + 9)), (67, vi .i64 x_742.Used)] [.gone, .gone, .blk 30 (C_api_Bond ({ x_8 with Used := x_6.2 }) (.s 3)), .rd 2 R_T_api_Subscription x_8.Subs, .own 10 30 R_T_api_Bond x_6.1] ?_ (fun c_21_4 => ?_)
                         · refine SD.all1 (i := 4) (by kernel_rfl) ?_
                           refine SW.eff D_21 (i := 4) (bs' := [I, I, I, I, I, I, I, I, I, I, O]) rfl (.inl rfl) rfl (e_ldf (sz := 10) (E := 30) (R := R_T_api_Bond) (i := 4) (o := 9) (iv := x_14) (l := x_6.1) tk rfl rfl e_x_342 rfl (by kernel_rfl) (by kernel_rfl) rfl) (by kernel_rfl) rfl (by kernel_rfl) ?_
                           refine SD.takes tk D_21 [] kn0 [10] [] [] [I, I, I, I, I, I, I, I, I, I, I] [(3, vp 2 0), (8, vs 4), (10, vi .i64 x_13), (11, vi .i64 x_14), (68, vb (decide (x_342.Used < x_742.Used)))] rfl (by kernel_rfl) (by kernel_rfl) (by kernel_rfl) ?_
                           exact SD.vie D_21 [.g 0, .g 1, .g 2, .g 3, .g 4] c_21_0 (by kernel_rfl)
                         · refine SD.lay 3 [I, I, I, I, O, I, I, I, I, O, O] [(3, vp 2 0), (8, vs 4), (10, vi .i64 x_13), (11, vi .i64 x_14), (61, vp 4 (x_14.toNat * 10 + 9)), (66, vp 4 (x_13.toNat * 10 + 9))] [.gone, .gone, .blk 30 (C_api_Bond ({ x_8 with Used := x_6.2 }) (.s 3)), .rd 2 R_T_api_Subscription x_8.Subs, .own 10 30 R_T_api_Bond x_6.1] ?_ (fun c_21_5 => ?_)
                           · refine SD.all2 (i := 4) (j := 9) (by kernel_rfl) ?_ ?_
                             · refine SW.eff D_21 (i := 4) (bs' := [I, I, I, I, I, I, I, I, I, O, O]) rfl (.inl rfl) rfl (e_ldf (sz := 10) (E := 30) (R := R_T_api_Bond) (i := 4) (o := 9) (iv := x_14) (l := x_6.1) tk rfl rfl e_x_342 rfl (by kernel_rfl) (by kernel_rfl) rfl) (by kernel_rfl) rfl (by kernel_rfl) ?_
                               exact SD.vie D_21 [.g 0, .g 1, .g 2, .g 3, .g 4] c_21_1 (by kernel_rfl)
                             · refine SW.eff D_21 (i := 9) (bs' := [I, I, I, I, O, I, I, I, I, I, O]) rfl (.inl rfl) rfl (e_ldf (sz := 10) (E := 30) (R := R_T_api_Bond) (i := 4) (o := 9) (iv := x_13) (l := x_6.1) tk rfl rfl e_x_742 rfl (by kernel_rfl) (by kernel_rfl) rfl) (by kernel_rfl) rfl (by kernel_rfl) ?_
                               exact SD.vie D_21 [.g 0, .g 1, .g 2, .g 3, .g 4] c_21_4 (by kernel_rfl)
                           · refine SD.lay 4 [I, I, I, I, O, I, I, I, O, O, O] [(3, vp 2 0), (8, vs 4), (10, vi .i64 x_13), (11, vi .i64 x_14), (61, vp 4 (x_14.toNat * 10 + 9)), (65, vp 4 (x_13.toNat * 10))] [.gone, .gone, .blk 30 (C_api_Bond ({ x_8 with Used := x_6.2 }) (.s 3)), .rd 2 R_T_api_Subscription x_8.Subs, .own 10 30 R_T_api_Bond x_6.1] ?_ (fun c_21_6 => ?_)
                             · refine SD.all2 (i := 4) (j := 8) (by kernel_rfl) ?_ ?_
                               · refine SW.eff D_21 (i := 4) (bs' := [I, I, I, I, I, I, I, I, O, O, O]) rfl (.inl rfl) rfl (e_ldf (sz := 10) (E := 30) (R := R_T_api_Bond) (i := 4) (o := 9) (iv := x_14) (l := x_6.1) tk rfl rfl e_x_342 rfl (by kernel_rfl) (by kernel_rfl) rfl) (by kernel_rfl) rfl (by kernel_rfl) ?_
                                 exact SD.vie D_21 [.g 0, .g 1, .g 2, .g 3, .g 4] c_21_2 (by kernel_rfl)
                               · refine SW.eff D_21 (i := 8) (bs' := [I, I, I, I, O, I, I, I, I, O, O]) rfl (.inl rfl) rfl (e_fap (off := 9) (iv := x_13) tk rfl rfl e_x_582 (by kernel_rfl)) (by kernel_rfl) rfl (by kernel_rfl) ?_
                                 exact SD.vie D_21 [.g 0, .g 1, .g 2, .g 3, .g 4] c_21_5 (by kernel_rfl)
                             · refine SD.lay 5 [I, I, I, I, O, I, I, O, O, O, O] [(3, vp 2 0), (8, vs 4), (10, vi .i64 x_13), (11, vi .i64 x_14), (61, vp 4 (x_14.toNat * 10 + 9)), (63, vs 4), (64, vi .i64 x_13)] [.gone, .gone, .blk 30 (C_api_Bond ({ x_8 with Used := x_6.2 }) (.s 3)), .rd 2 R_T_api_Subscription x_8.Subs, .own 10 30 R_T_api_Bond x_6.1] ?_ (fun c_21_7 => ?_)
                               · refine SD.all2 (i := 4) (j := 7) (by kernel_rfl) ?_ ?_
                                 · refine SW.eff D_21 (i := 4) (bs' := [I, I, I, I, I, I, I, O, O, O, O]) rfl (.inl rfl) rfl (e_ldf (sz := 10) (E := 30) (R := R_T_api_Bond) (i := 4) (o := 9) (iv := x_14) (l := x_6.1) tk rfl rfl e_x_342 rfl (by kernel_rfl) (by kernel_rfl) rfl) (by kernel_rfl) rfl (by kernel_rfl) ?_
                                   exact SD.vie D_21 [.g 0, .g 1, .g 2, .g 3, .g 4] c_21_3 (by kernel_rfl)
                                 · refine SW.eff D_21 (i := 7) (bs' := [I, I, I, I, O, I, I, I, O, O, O]) rfl (.inl rfl) rfl (e_ixp (sz := 10) (E := 30) (R := R_T_api_Bond) (by_ := 96) (l := x_6.1) tk rfl rfl rfl e_x_582 (by kernel_rfl)) (by kernel_rfl) rfl (by kernel_rfl) ?_
                                   exact SD.vie D_21 [.g 0, .g 1, .g 2, .g 3, .g 4] c_21_6 (by kernel_rfl)
                               · refine SD.lay 3 [I, I, I, O, O, I, I, I, I, I, O] [(3, vp 2 0), (8, vs 4), (10, vi .i64 x_13), (11, vi .i64 x_14), (60, vp 4 (x_14.toNat * 10)), (67, vi .i64 x_742.Used)] [.gone, .gone, .blk 30 (C_api_Bond ({ x_8 with Used := x_6.2 }) (.s 3)), .rd 2 R_T_api_Subscription x_8.Subs, .own 10 30 R_T_api_Bond x_6.1] ?_ (fun c_21_8 => ?_)
                                 · refine SD.all1 (i := 3) (by kernel_rfl) ?_
                                   refine SW.eff D_21 (i := 3) (bs' := [I, I, I, I, O, I, I, I, I, I, O]) rfl (.inl rfl) rfl (e_fap (off := 9) (iv := x_14) tk rfl rfl e_x_182 (by kernel_rfl)) (by kernel_rfl) rfl (by kernel_rfl) ?_
                                   exact SD.vie D_21 [.g 0, .g 1, .g 2, .g 3, .g 4] c_21_4 (by kernel_rfl)
                                 · refine SD.lay 4 [I, I, I, O, O, I, I, I, I, O, O] [(3, vp 2 0), (8, vs 4), (10, vi .i64 x_13), (11, vi .i64 x_14), (60, vp 4 (x_14.toNat * 10)), (66, vp 4 (x_13.toNat * 10 + 9))] [.gone, .gone, .blk 30 (C_api_Bond ({ x_8 with Used := x_6.2 }) (.s 3)), .rd 2 R_T_api_Subscription x_8.Subs, .own 10 30 R_T_api_Bond x_6.1] ?_ (fun c_21_9 => ?_)
                                   · refine SD.all2 (i := 3) (j := 9) (by kernel_rfl) ?_ ?_
                                     · refine SW.eff D_21 (i := 3) (bs' := [I, I, I, I, O, I, I, I, I, O, O]) rfl (.inl rfl) rfl (e_fap (off := 9) (iv := x_14) tk rfl rfl e_x_182 (by kernel_rfl)) (by kernel_rfl) rfl (by kernel_rfl) ?_
                                       exact SD.vie D_21 [.g 0, .g 1, .g 2, .g 3, .g 4] c_21_5 (by kernel_rfl)
                                     · refine SW.eff D_21 (i := 9) (bs' := [I, I, I, O, O, I, I, I, I, I, O]) rfl (.inl rfl) rfl (e_ldf (sz := 10) (E := 30) (R := R_T_api_Bond) (i := 4) (o := 9) (iv := x_13) (l := x_6.1) tk rfl rfl e_x_742 rfl (by kernel_rfl) (by kernel_rfl) rfl) (by kernel_rfl) rfl (by kernel_rfl) ?_
                                       exact SD.vie D_21 [.g 0, .g 1, .g 2, .g 3, .g 4] c_21_8 (by kernel_rfl)
                                   · refine SD.lay 5 [I, I, I, O, O, I, I, I, O, O, O] [(3, vp 2 0), (8, vs 4), (10, vi .i64 x_13), (11, vi .i64 x_14), (60, vp 4 (x_14.toNat * 10)), (65, vp 4 (x_13.toNat * 10))] [.gone, .gone, .blk 30 (C_api_Bond ({ x_8 with Used := x_6.2 }) (.s 3)), .rd 2 R_T_api_Subscription x_8.Subs, .own 10 30 R_T_api_Bond x_6.1] ?_ (fun c_21_10 => ?_)
                                     · refine SD.all2 (i := 3) (j := 8) (by kernel_rfl) ?_ ?_
                                       · refine SW.eff D_21 (i := 3) (bs' := [I, I, I, I, O, I, I, I, O, O, O]) rfl (.inl rfl) rfl (e_fap (off := 9) (iv := x_14) tk rfl rfl e_x_182 (by kernel_rfl)) (by kernel_rfl) rfl (by kernel_rfl) ?_
                                         exact SD.vie D_21 [.g 0, .g 1, .g 2, .g 3, .g 4] c_21_6 (by kernel_rfl)
                                       · refine SW.eff D_21 (i := 8) (bs' := [I, I, I, O, O, I, I, I, I, O, O]) rfl (.inl rfl) rfl (e_fap (off := 9) (iv := x_13) tk rfl rfl e_x_582 (by kernel_rfl)) (by kernel_rfl) rfl (by kernel_rfl) ?_
                                         exact SD.vie D_21 [.g 0, .g 1, .g 2, .g 3, .g 4] c_21_9 (by kernel_rfl)
                                     · refine SD.lay 6 [I, I, I, O, O, I, I, O, O, O, O] [(3, vp 2 0), (8, vs 4), (10, vi .i64 x_13), (11, vi .i64 x_14), (60, vp 4 (x_14.toNat * 10)), (63, vs 4), (64, vi .i64 x_13)] [.gone, .gone, .blk 30 (C_api_Bond ({ x_8 with Used := x_6.2 }) (.s 3)), .rd 2 R_T_api_Subscription x_8.Subs, .own 10 30 R_T_api_Bond x_6.1] ?_ (fun c_21_11 => ?_)
                                       · refine SD.all2 (i := 3) (j := 7) (by kernel_rfl) ?_ ?_
                                         · refine SW.eff D_21 (i := 3) (bs' := [I, I, I, I, O, I, I, O, O, O, O]) rfl (.inl rfl) rfl (e_fap (off := 9) (iv := x_14) tk rfl rfl e_x_182 (by kernel_rfl)) (by kernel_rfl) rfl (by kernel_rfl) ?_
                                           exact SD.vie D_21 [.g 0, .g 1, .g 2, .g 3, .g 4] c_21_7 (by kernel_rfl)
                                         · refine SW.eff D_21 (i := 7) (bs' := [I, I, I, O, O, I, I, I, O, O, O]) rfl (.inl rfl) rfl (e_ixp (sz := 10) (E := 30) (R := R_T_api_Bond) (by_ := 96) (l := x_6.1) tk rfl rfl rfl e_x_582 (by kernel_rfl)) (by kernel_rfl) rfl (by kernel_rfl) ?_
                                           exact SD.vie D_21 [.g 0, .g 1, .g 2, .g 3, .g 4] c_21_10 (by kernel_rfl)
                                       · refine SD.lay 4 [I, I, O, O, O, I, I, I, I, I, O] [(3, vp 2 0), (8, vs 4), (10, vi .i64 x_13), (11, vi .i64 x_14), (58, vs 4), (59, vi .i64 x_14), (67, vi .i64 x_742.Used)] [.gone, .gone, .blk 30 (C_api_Bond ({ x_8 with Used := x_6.2 }) (.s 3)), .rd 2 R_T_api_Subscription x_8.Subs, .own 10 30 R_T_api_Bond x_6.1] ?_ (fun c_21_12 => ?_)
                                         · refine SD.all1 (i := 2) (by kernel_rfl) ?_
                                           refine SW.eff D_21 (i := 2) (bs' := [I, I, I, O, O, I, I, I, I, I, O]) rfl (.inl rfl) rfl (e_ixp (sz := 10) (E := 30) (R := R_T_api_Bond) (by_ := 96) (l := x_6.1) tk rfl rfl rfl e_x_182 (by kernel_rfl)) (by kernel_rfl) rfl (by kernel_rfl) ?_
                                           exact SD.vie D_21 [.g 0, .g 1, .g 2, .g 3, .g 4] c_21_8 (by kernel_rfl)
                                         · refine SD.lay 5 [I, I, O, O, O, I, I, I, I, O, O] [(3, vp 2 0), (8, vs 4), (10, vi .i64 x_13), (11, vi .i64 x_14), (58, vs 4), (59, vi .i64 x_14), (66, vp 4 (x_13.toNat * 10 + 9))] [.gone, .gone, .blk 30 (C_api_Bond ({ x_8 with Used := x_6.2 }) (.s 3)), .rd 2 R_T_api_Subscription x_8.Subs, .own 10 30 R_T_api_Bond x_6.1] ?_ (fun c_21_13 => ?_)
                                           · refine SD.all2 (i := 2) (j := 9) (by kernel_rfl) ?_ ?_
                                             · refine SW.eff D_21 (i := 2) (bs' := [I, I, I, O, O, I, I, I, I, O, O]) rfl (.inl rfl) rfl (e_ixp (sz := 10) (E := 30) (R := R_T_api_Bond) (by_ := 96) (l := x_6.1) tk rfl rfl rfl e_x_182 (by kernel_rfl)) (by kernel_rfl) rfl (by kernel_rfl) ?_
                                               exact SD.vie D_21 [.g 0, .g 1, .g 2, .g 3, .g 4] c_21_9 (by kernel_rfl)
                                             · refine SW.eff D_21 (i := 9) (bs' := [I, I, O, O, O, I, I, I, I, I, O]) rfl (.inl rfl) rfl (e_ldf (sz := 10) (E := 30) (R := R_T_api_Bond) (i := 4) (o := 9) (iv := x_13) (l := x_6.1) tk rfl rfl e_x_742 rfl (by kernel_rfl) (by kernel_rfl) rfl) (by kernel_rfl) rfl (by kernel_rfl) ?_
                                               exact SD.vie D_21 [.g 0, .g 1, .g 2, .g 3, .g 4] c_21_12 (by kernel_rfl)
                                           · refine SD.lay 6 [I, I, O, O, O, I, I, I, O, O, O] [(3, vp 2 0), (8, vs 4), (10, vi .i64 x_13), (11, vi .i64 x_14), (58, vs 4), (59, vi .i64 x_14), (65, vp 4 (x_13.toNat * 10))] [.gone, .gone, .blk 30 (C_api_Bond ({ x_8 with Used := x_6.2 }) (.s 3)), .rd 2 R_T_api_Subscription x_8.Subs, .own 10 30 R_T_api_Bond x_6.1] ?_ (fun c_21_14 => ?_)
                                             · refine SD.all2 (i := 2) (j := 8) (by kernel_rfl) ?_ ?_
                                               · refine SW.eff D_21 (i := 2) (bs' := [I, I, I, O, O, I, I, I, O, O, O]) rfl (.inl rfl) rfl (e_ixp (sz := 10) (E := 30) (R := R_T_api_Bond) (by_ := 96) (l := x_6.1) tk rfl rfl rfl e_x_182 (by kernel_rfl)) (by kernel_rfl) rfl (by kernel_rfl) ?_
                                                 exact SD.vie D_21 [.g 0, .g 1, .g 2, .g 3, .g 4] c_21_10 (by kernel_rfl)
                                               · refine SW.eff D_21 (i := 8) (bs' := [I, I, O, O, O, I, I, I, I, O, O]) rfl (.inl rfl) rfl (e_fap (off := 9) (iv := x_13) tk rfl rfl e_x_582 (by kernel_rfl)) (by kernel_rfl) rfl (by kernel_rfl) ?_
                                                 exact SD.vie D_21 [.g 0, .g 1, .g 2, .g 3, .g 4] c_21_13 (by kernel_rfl)
                                             · refine SD.all2 (i := 2) (j := 7) (by kernel_rfl) ?_ ?_
                                               · refine SW.eff D_21 (i := 2) (bs' := [I, I, I, O, O, I, I, O, O, O, O]) rfl (.inl rfl) rfl (e_ixp (sz := 10) (E := 30) (R := R_T_api_Bond) (by_ := 96) (l := x_6.1) tk rfl rfl rfl e_x_182 (by kernel_rfl)) (by kernel_rfl) rfl (by kernel_rfl) ?_
                                                 exact SD.vie D_21 [.g 0, .g 1, .g 2, .g 3, .g 4] c_21_11 (by kernel_rfl)
                                               · refine SW.eff D_21 (i := 7) (bs' := [I, I, O, O, O, I, I, I, O, O, O]) rfl (.inl rfl) rfl (e_ixp (sz := 10) (E := 30) (R := R_T_api_Bond) (by_ := 96) (l := x_6.1) tk rfl rfl rfl e_x_582 (by kernel_rfl)) (by kernel_rfl) rfl (by kernel_rfl) ?_
                                                 exact SD.vie D_21 [.g 0, .g 1, .g 2, .g 3, .g 4] c_21_14 (by kernel_rfl)
               · rintro a w ⟨z_19, hp, h⟩
                 refine h.go ?_
                 refine SC.if' rfl hp (fun hp => ?_) (fun hp => ?_)
                 · refine SC.reg ?_
                   refine SL.sim tk 2 [(3, vp 2 0), (8, vs 4), (10, vi .i64 x_14), (11, vi .i64 x_14)] [] [] [] (by kernel_rfl) ?_
                   refine SL.nilJ fun a w h => ?_
                   exact ⟨x_14, hp, h.at (js := [.g 0, .g 1, .g 2, .g 3, .g 4]) (by kernel_rfl)⟩
                 · refine SC.skipJ fun a w h => ?_
                   exact ⟨x_13, hp, h.at (js := [.g 0, .g 1, .g 2, .g 3, .g 4]) (by kernel_rfl)⟩
         · rintro a w ⟨x_15, hp, h⟩
           refine h.go ?_
           refine SC.reg ?_
           refine SL.sim tk 3 [(3, vp 2 0), (8, vs 4), (10, vi .i64 x_15), (11, vi .i64 (w64 (x_14 + 1)))] [] [] [] (by kernel_rfl) ?_
           refine SL.nilJ fun a w h => ?_
           exact ⟨n1, Nat.lt_succ_self _, x_15, w64 (x_14 + 1), next_inv hp hs1, h.at (js := [.g 0, .g 1, .g 2, .g 3, .g 4]) (by kernel_rfl)⟩
       · refine SC.exitJ rfl fun a w h => ?_
         have ho := done_inv hp hs1
         replace hp := ho1
         try rw [ho] at hp
         exact ⟨x_13, hp, h.at (js := [.g 0, .g 1, .g 2, .g 3, .g 4]) (by kernel_rfl)⟩
     · rintro a w ⟨x_9, hp, h⟩
       refine h.go ?_
       refine SC.seq ?_
       refine SC.r tk [(3, vp 2 0), (8, vs 4), (10, vi .i64 x_9), (72, vb (decide ((len x_6.1) < 16)))] [] [] [] (by kernel_rfl) ?_
       refine SC.if' rfl hp (fun hp => ?_) (fun hp => ?_)
       · refine SC.seq ?_
         refine SC.reg ?_
         refine SL.sim tk 2 [(8, vs 4), (73, vs 4), (74, .g (C_api_Bond ({ x_8 with Used := x_6.2 }) (.s 3)))] [] [] [] (by kernel_rfl) ?_
         refine SL.eff (e_lit (sz := 10) (E := 30) (R := R_T_api_Bond) (by_ := 96) tk [(C_api_Bond ({ x_8 with Used := x_6.2 }) (.s 3))] [{ x_8 with Used := x_6.2 }] (by kernel_rfl) ⟨(clo_T_api_Bond (x := { x_8 with Used := x_6.2 }) (Clo.sl (by kernel_rfl))), trivial⟩ rfl (by kernel_rfl) (by kernel_rfl)) rfl (by kernel_rfl) ?_
         obtain ⟨l_10, e_l_10, hp⟩ := bind_inv hp
         refine SL.eff (e_appk (i := 4) (l := x_6.1) (sz := 10) (E := 30) (R := R_T_api_Bond) (by_ := 96) (m := [{ x_8 with Used := x_6.2 }]) tk rfl (by kernel_rfl) rfl (.o 30 (by kernel_rfl)) e_l_10 (by kernel_rfl)) rfl (by kernel_rfl) ?_
         refine SL.sim tk 5 [(4, vs 6), (5, vi .i64 (len (lens x_6.1))), (6, vi .i64 0)] [] [] [] (by kernel_rfl) ?_
         refine SL.nilThen ?_
         obtain rfl := some_inv' hp
         exact SC.re (js := [.g 0, .g 1, .z 6]) tk (by kernel_rfl)
       · refine SC.skipThen ?_
         refine SC.seq ?_
         refine SC.reg ?_
         obtain ⟨x_11, e_x_11, hp⟩ := bind_inv hp
         refine SL.pre (pre_ixo (i := 4) (iv := x_9) (sz := 10) (E := 30) (R := R_T_api_Bond) (l := x_6.1) (by kernel_rfl) rfl e_x_11) ?_
         refine SL.sim tk 4 [(8, vs 4), (10, vi .i64 x_9), (81, .g (C_api_Bond ({ x_8 with Used := x_6.2 }) (.s 3))), (82, vp 5 0)] [] [.el 5] [x_9] (by kernel_rfl) ?_
         obtain ⟨l_12, e_l_12, hp⟩ := bind_inv hp
         refine SL.eff0 (e_updf (sz := 10) (R := R_T_api_Bond) (i := 4) (iv := x_9) (cs1 := (C_api_Bond ({ x_8 with Used := x_6.2 }) (.s 3))) (e := { x_8 with Used := x_6.2 }) tk rfl rfl rfl (by kernel_rfl) rfl rfl rfl (clo_T_api_Bond (x := { x_8 with Used := x_6.2 }) (Clo.sl (by kernel_rfl))) (by kernel_rfl) (by kernel_rfl) e_l_12) ?_
         refine SL.nilThen ?_
         refine SC.r tk [(4, vs 4), (5, vi .i64 x_9), (6, vi .i64 0)] [] [] [] (by kernel_rfl) ?_
         obtain rfl := some_inv' hp
         exact SC.re (js := [.g 0, .g 1, .z 4]) tk (by kernel_rfl)

theorem ok_wirelessref40_Remove (F : Nat) (l_1 : (List T_api_Bond)) (i_2 : Int) (r : (List T_api_Bond) × Int) (hp : wirelessref40_Remove F l_1 i_2 = some r) : Spec Tryd.prog 21 [vs 0, vi .i64 i_2] [.rd 10 R_T_api_Bond l_1] (.u [.inl (.s 1), .inl (ci .i64 r.2)]) [.gone, .rd 10 R_T_api_Bond r.1] := by
 refine Spec.enter Tryd.func21 rfl Tryd.ntmps21 rfl rfl fun fx => ?_
 refine SC.r tk [(0, vs 0), (1, vi .i64 i_2)] [] [] [] (by kernel_rfl) ?_
 refine SC.seq ?_
 refine SC.r tk [(0, vs 0), (1, vi .i64 i_2), (14, vb ((decide (i_2 < 0)) || (decide (i_2 ≥ (len l_1)))))] [] [] [] (by kernel_rfl) ?_
 refine SC.if' rfl hp (fun hp => ?_) (fun hp => ?_)
 · refine SC.seq ?_
   refine SC.reg ?_
   refine SL.sim tk 1 [(15, vs 0)] [] [] [] (by kernel_rfl) ?_
   obtain ⟨x_3, e_x_3, hp⟩ := bind_inv hp
   refine SL.eff (e_c Tryd.call9 (ok_wirelessref40_Copy F l_1 _ e_x_3) [.g 0] [vs 0] (vs 1) (by kernel_rfl) (.inl rfl)) rfl (by kernel_rfl) ?_
   refine SL.sim tk 2 [(4, vs 1), (5, vi .i64 5)] [] [] [] (by kernel_rfl) ?_
   refine SL.nilThen ?_
   obtain rfl := some_inv' hp
   exact SC.re (js := [.g 0, .z 1]) tk (by kernel_rfl)
 · refine SC.skipThen ?_
   refine SC.seq ?_
   refine SC.reg ?_
   refine SL.sim tk 1 [(1, vi .i64 i_2), (17, vs 0)] [] [] [] (by kernel_rfl) ?_
   obtain ⟨x_4, e_x_4, hp⟩ := bind_inv hp
   refine SL.eff (e_c Tryd.call9 (ok_wirelessref40_Copy F l_1 _ e_x_4) [.g 0] [vs 0] (vs 1) (by kernel_rfl) (.inl rfl)) rfl (by kernel_rfl) ?_
   refine SL.sim tk 1 [(1, vi .i64 i_2), (6, vs 1)] [] [] [] (by kernel_rfl) ?_
   refine SL.nilThen ?_
   refine SC.cut (fun a w => ∃ (l_5 : (List T_api_Bond)), wirelessref40_Remove_j1 F l_5 = some r ∧ A 27 1 fx [(4, vs 1), (5, vi .i64 0)] [.gone, .own 10 30 R_T_api_Bond l_5] a w) ?_ ?_
   · refine SC.draw MO [true, false] (by kernel_rfl) fun kap_6 D_7 => ?_
     refine SD.takes tk D_7 [] kn0 [0, 1, 3, 4, 5] [] [] [I, I, O, I, I, I, O, O, O, O] [(19, vs 1), (20, vi .i64 i_2), (22, vs 1), (24, vi .i64 (w64 (i_2 + 1)))] rfl (by kernel_rfl) (by kernel_rfl) (by kernel_rfl) ?_
     obtain ⟨l_8, e_l_8, hp⟩ := bind_inv hp
     obtain ⟨l_9, e_l_9, hp⟩ := bind_inv hp
     obtain ⟨l_10, e_l_10, hp⟩ := bind_inv hp
     refine SD.appd (sz := 10) (E := 30) (R := R_T_api_Bond) (by_ := 96) (j := 1) (l := x_4) tk D_7 (i2 := 2) (i6 := 6) (i7 := 7) [I, I, I, I, I, I, O, O, O, O] [I, I, I, I, I, I, I, O, O, O] [I, I, I, I, I, I, I, I, O, O] rfl rfl rfl rfl rfl rfl rfl rfl e_l_8 e_l_9 e_l_10 rfl (by kernel_rfl) (by kernel_rfl) rfl rfl rfl (by kernel_rfl) rfl rfl ?_
     refine SD.norm (itsN := [.rd 10 R_T_api_Bond l_1, .gone, .own 10 30 R_T_api_Bond l_10]) (by kernel_rfl) ?_
     refine SD.takes tk D_7 [] kn0 [8, 9] [] [] [I, I, I, I, I, I, I, I, I, I] [(4, vs 2), (5, vi .i64 0)] rfl (by kernel_rfl) (by kernel_rfl) (by kernel_rfl) ?_
     refine SD.done (by kernel_rfl) fun a w h => ?_
     exact ⟨l_10, hp, h.at (js := [.g 0, .g 2]) (by kernel_rfl)⟩
   · rintro a w ⟨l_5, hp, h⟩
     refine h.go ?_
     obtain rfl := some_inv' hp
     exact SC.re (js := [.g 0, .z 1]) tk (by kernel_rfl)

theorem ok_wirelessref40_Same (F : Nat) (a_1 : (List T_api_Bond)) (b_2 : (List T_api_Bond)) (r : Bool) (hp : wirelessref40_Same F a_1 b_2 = some r) : Spec Tryd.prog 22 [vs 0, vs 1] [.rd 10 R_T_api_Bond a_1, .rd 10 R_T_api_Bond b_2] (vb r) [.gone, .gone] := by
 refine Spec.enter Tryd.func22 rfl Tryd.ntmps22 rfl rfl fun fx => ?_
 refine SC.r tk [(0, vs 0), (1, vs 1)] [] [] [] (by kernel_rfl) ?_
 refine SC.seq ?_
 refine SC.r tk [(0, vs 0), (1, vs 1), (10, vb ((len a_1) != (len b_2)))] [] [] [] (by kernel_rfl) ?_
 refine SC.if' rfl hp (fun hp => ?_) (fun hp => ?_)
 · refine SC.r tk [(4, vb false)] [] [] [] (by kernel_rfl) ?_
   obtain rfl := some_inv' hp
   exact SC.re (js := [.g 0, .g 1]) tk (by kernel_rfl)
 · refine SC.skipThen ?_
   refine SC.cut (fun a w => wirelessref40_Same_j1 F = some r ∧ A 27 2 fx [] [.gone, .gone] a w) ?_ ?_
   · refine SC.r tk [(0, vs 0), (1, vs 1), (5, vi .i64 0)] [] [] [] (by kernel_rfl) ?_
     refine SC.block ?_
     obtain ⟨o1, hi1, ho1⟩ := bind_inv hp
     clear hp
     refine SC.loop (fun n a w => ∃ (x_3 : Int), iter (fun s => wirelessref40_Same_l1 F a_1 b_2 s) n (x_3) = some o1 ∧ A 27 2 fx [(0, vs 0), (1, vs 1), (5, vi .i64 x_3)] [.rd 10 R_T_api_Bond a_1, .rd 10 R_T_api_Bond b_2] a w) F (fun a w h => ⟨0, hi1, h.at (js := [.g 0, .g 1]) (by kernel_rfl)⟩) ?_
     rintro n1 a w ⟨x_3, hi1, h⟩
     obtain ⟨n1, q1, rfl, hp, hs1⟩ := iter_inv hi1
     replace hp : wirelessref40_Same_l1 F a_1 b_2 x_3 = some q1 := hp
     clear hi1
     refine h.go ?_
     refine SC.seq ?_
     refine SC.r tk [(0, vs 0), (1, vs 1), (5, vi .i64 x_3), (14, vb (decide (x_3 < (len a_1))))] [] [] [] (by kernel_rfl) ?_
     refine SC.if' rfl hp (fun hp => ?_) (fun hp => ?_)
     · refine SC.skipThen ?_
       refine SC.seq ?_
       refine SC.block ?_
       refine SC.cut (fun a w => ∃ (z_4 : Bool), wirelessref40_Same_j2 F x_3 z_4 = some q1 ∧ A 27 2 fx [(0, vs 0), (1, vs 1), (5, vi .i64 x_3), (26, vb z_4)] [.rd 10 R_T_api_Bond a_1, .rd 10 R_T_api_Bond b_2] a w) ?_ ?_
       · obtain ⟨x_5, e_x_5, hp⟩ := bind_inv hp
         obtain ⟨x_6, e_x_6, hp⟩ := bind_inv hp
         refine SC.pre (pre_ix (i := 0) (iv := x_3) (sz := 10) (R := R_T_api_Bond) (l := a_1) (by kernel_rfl) rfl e_x_5) ?_
         refine SC.pre (pre_ix (i := 1) (iv := x_3) (sz := 10) (R := R_T_api_Bond) (l := b_2) (by kernel_rfl) rfl e_x_6) ?_
         refine SC.draw MO [I, I, I, I, I, I] (by kernel_rfl) fun kap_7 D_8 => ?_
         refine SD.takes tk D_8 [] kn0 [0, 1, 2, 3, 4, 5, 6, 7] [.el 2, .el 4] [x_3, x_3] [I, I, I, I, I, I, I, I, O, O] [(0, vs 0), (1, vs 1), (5, vi .i64 x_3), (20, .g (C_api_Bond x_5 (.s 3))), (24, .g (C_api_Bond x_6 (.s 5)))] rfl (by kernel_rfl) (by kernel_rfl) (by kernel_rfl) ?_
         obtain ⟨x_9, e_x_9, hp⟩ := bind_inv hp
         refine SD.all1 (i := 8) (by kernel_rfl) ?_
         refine SW.eff D_8 (i := 8) (bs' := [I, I, I, I, I, I, I, I, I, O]) rfl (.inl rfl) rfl (e_c Tryd.call16 (ok_wirelessref40_SameBond F x_5 x_6 _ e_x_9) [.g 3, .g 5] [.g (C_api_Bond x_5 (.s 3)), .g (C_api_Bond x_6 (.s 5))] (vb x_9) (by kernel_rfl) (.inl rfl)) (by kernel_rfl) rfl (by kernel_rfl) ?_
         refine SD.takes tk D_8 [] kn0 [9] [] [] [I, I, I, I, I, I, I, I, I, I] [(0, vs 0), (1, vs 1), (5, vi .i64 x_3), (26, vb (!x_9))] rfl (by kernel_rfl) (by kernel_rfl) (by kernel_rfl) ?_
         refine SD.done (by kernel_rfl) fun a w h => ?_
         exact ⟨(!x_9), hp, h.at (js := [.g 0, .g 1]) (by kernel_rfl)⟩
       · rintro a w ⟨z_4, hp, h⟩
         refine h.go ?_
         refine SC.if' rfl hp (fun hp => ?_) (fun hp => ?_)
         · refine SC.r tk [(4, vb false)] [] [] [] (by kernel_rfl) ?_
           have ho := done_inv hp hs1
           replace hp := ho1
           try rw [ho] at hp
           obtain rfl := some_inv' hp
           exact SC.re (js := [.g 0, .g 1]) tk (by kernel_rfl)
         · refine SC.skipThen ?_
           refine SC.reg ?_
           refine SL.sim tk 3 [(0, vs 0), (1, vs 1), (5, vi .i64 (w64 (x_3 + 1)))] [] [] [] (by kernel_rfl) ?_
           refine SL.nilJ fun a w h => ?_
           exact ⟨n1, Nat.lt_succ_self _, w64 (x_3 + 1), next_inv hp hs1, h.at (js := [.g 0, .g 1]) (by kernel_rfl)⟩
     · refine SC.exitJ rfl fun a w h => ?_
       have ho := done_inv hp hs1
       replace hp := ho1
       try rw [ho] at hp
       exact ⟨hp, h.at (js := [.g 0, .g 1]) (by kernel_rfl)⟩
   · rintro a w ⟨hp, h⟩
     refine h.go ?_
     refine SC.r tk [(4, vb true)] [] [] [] (by kernel_rfl) ?_
     obtain rfl := some_inv' hp
     exact SC.re (js := [.g 0, .g 1]) tk (by kernel_rfl)

theorem ok_bonds_Touch (F : Nat) (l_1 : (List T_api_Bond)) (i_2 : Int) (r : (List T_api_Bond)) (hp : bonds_Touch F l_1 i_2 = some r) : Spec Tryd.prog 23 [vs 0, vi .i64 i_2] [.rd 10 R_T_api_Bond l_1] (vs 1) [.gone, .rd 10 R_T_api_Bond r] := by
 refine Spec.enter Tryd.func23 rfl Tryd.ntmps23 rfl rfl fun fx => ?_
 refine SC.r tk [(0, vs 0), (1, vi .i64 i_2)] [] [] [] (by kernel_rfl) ?_
 refine SC.seq ?_
 refine SC.r tk [(0, vs 0), (1, vi .i64 i_2), (14, vb ((decide (i_2 < 0)) || (decide (i_2 ≥ (len l_1)))))] [] [] [] (by kernel_rfl) ?_
 refine SC.if' rfl hp (fun hp => ?_) (fun hp => ?_)
 · refine SC.seq ?_
   refine SC.reg ?_
   refine SL.sim tk 1 [(15, vs 0)] [] [] [] (by kernel_rfl) ?_
   obtain ⟨x_3, e_x_3, hp⟩ := bind_inv hp
   refine SL.eff (e_c Tryd.call50 (ok_bonds_clone F l_1 _ e_x_3) [.g 0] [vs 0] (vs 1) (by kernel_rfl) (.inl rfl)) rfl (by kernel_rfl) ?_
   refine SL.sim tk 1 [(4, vs 1)] [] [] [] (by kernel_rfl) ?_
   refine SL.nilThen ?_
   obtain rfl := some_inv' hp
   exact SC.re (js := [.g 0, .z 1]) tk (by kernel_rfl)
 · refine SC.skipThen ?_
   refine SC.seq ?_
   refine SC.reg ?_
   refine SL.sim tk 1 [(1, vi .i64 i_2), (18, vs 0)] [] [] [] (by kernel_rfl) ?_
   obtain ⟨x_4, e_x_4, hp⟩ := bind_inv hp
   refine SL.eff (e_c Tryd.call51 (ok_bonds_next F l_1 _ e_x_4) [.g 0] [vs 0] (.u [.inl (.s 1), .inl (ci .i64 x_4.2)]) (by kernel_rfl) (.inl rfl)) rfl (by kernel_rfl) ?_
   refine SL.sim tk 5 [(1, vi .i64 i_2), (5, vs 1), (6, vi .i64 x_4.2)] [] [] [] (by kernel_rfl) ?_
   refine SL.nilThen ?_
   refine SC.seq ?_
   refine SC.reg ?_
   obtain ⟨x_5, e_x_5, hp⟩ := bind_inv hp
   refine SL.pre (pre_ixo (i := 1) (iv := i_2) (sz := 10) (E := 30) (R := R_T_api_Bond) (l := x_4.1) (by kernel_rfl) rfl e_x_5) ?_
   refine SL.sim tk 5 [(5, vs 1), (24, vi .i64 x_4.2), (26, vp 2 9)] [] [.el 2] [i_2] (by kernel_rfl) ?_
   obtain ⟨l_6, e_l_6, hp⟩ := bind_inv hp
   refine SL.eff0 (e_updf (sz := 10) (R := R_T_api_Bond) (i := 1) (iv := i_2) (cs1 := (C_api_Bond ({ x_5 with Used := x_4.2 }) (.s 3))) (e := { x_5 with Used := x_4.2 }) tk rfl rfl rfl (by kernel_rfl) rfl rfl rfl (clo_T_api_Bond (x := { x_5 with Used := x_4.2 }) (Clo.sl (by kernel_rfl))) (by kernel_rfl) (by kernel_rfl) e_l_6) ?_
   refine SL.norm (itsN := [.rd 10 R_T_api_Bond l_1, .own 10 30 R_T_api_Bond l_6, .gone, .rd 2 R_T_api_Subscription x_5.Subs]) (by kernel_rfl) ?_
   refine SL.nilThen ?_
   refine SC.r tk [(4, vs 1)] [] [] [] (by kernel_rfl) ?_
   obtain rfl := some_inv' hp
   exact SC.re (js := [.g 0, .z 1]) tk (by kernel_rfl)

theorem ok_wirelessref40_Touch (F : Nat) (l_1 : (List T_api_Bond)) (i_2 : Int) (r : (List T_api_Bond)) (hp : wirelessref40_Touch F l_1 i_2 = some r) : Spec Tryd.prog 24 [vs 0, vi .i64 i_2] [.rd 10 R_T_api_Bond l_1] (vs 1) [.gone, .rd 10 R_T_api_Bond r] := by
 refine Spec.enter Tryd.func24 rfl Tryd.ntmps24 rfl rfl fun fx => ?_
 refine SC.r tk [(0, vs 0), (1, vi .i64 i_2)] [] [] [] (by kernel_rfl) ?_
 refine SC.seq ?_
 refine SC.r tk [(0, vs 0), (1, vi .i64 i_2), (14, vb ((decide (i_2 < 0)) || (decide (i_2 ≥ (len l_1)))))] [] [] [] (by kernel_rfl) ?_
 refine SC.if' rfl hp (fun hp => ?_) (fun hp => ?_)
 · refine SC.seq ?_
   refine SC.reg ?_
   refine SL.sim tk 1 [(15, vs 0)] [] [] [] (by kernel_rfl) ?_
   obtain ⟨x_3, e_x_3, hp⟩ := bind_inv hp
   refine SL.eff (e_c Tryd.call9 (ok_wirelessref40_Copy F l_1 _ e_x_3) [.g 0] [vs 0] (vs 1) (by kernel_rfl) (.inl rfl)) rfl (by kernel_rfl) ?_
   refine SL.sim tk 1 [(4, vs 1)] [] [] [] (by kernel_rfl) ?_
   refine SL.nilThen ?_
   obtain rfl := some_inv' hp
   exact SC.re (js := [.g 0, .z 1]) tk (by kernel_rfl)
 · refine SC.skipThen ?_
   refine SC.seq ?_
   refine SC.reg ?_
   refine SL.sim tk 1 [(1, vi .i64 i_2), (18, vs 0)] [] [] [] (by kernel_rfl) ?_
   obtain ⟨x_4, e_x_4, hp⟩ := bind_inv hp
   refine SL.eff (e_c Tryd.call55 (ok_wirelessref40_recent F l_1 _ e_x_4) [.g 0] [vs 0] (.u [.inl (.s 1), .inl (ci .i64 x_4.2)]) (by kernel_rfl) (.inl rfl)) rfl (by kernel_rfl) ?_
   refine SL.sim tk 5 [(1, vi .i64 i_2), (5, vs 1), (6, vi .i64 x_4.2)] [] [] [] (by kernel_rfl) ?_
   refine SL.nilThen ?_
   refine SC.seq ?_
   refine SC.reg ?_
   obtain ⟨x_5, e_x_5, hp⟩ := bind_inv hp
   refine SL.pre (pre_ixo (i := 1) (iv := i_2) (sz := 10) (E := 30) (R := R_T_api_Bond) (l := x_4.1) (by kernel_rfl) rfl e_x_5) ?_
   refine SL.sim tk 5 [(5, vs 1), (24, vi .i64 x_4.2), (26, vp 2 9)] [] [.el 2] [i_2] (by kernel_rfl) ?_
   obtain ⟨l_6, e_l_6, hp⟩ := bind_inv hp
   refine SL.eff0 (e_updf (sz := 10) (R := R_T_api_Bond) (i := 1) (iv := i_2) (cs1 := (C_api_Bond ({ x_5 with Used := x_4.2 }) (.s 3))) (e := { x_5 with Used := x_4.2 }) tk rfl rfl rfl (by kernel_rfl) rfl rfl rfl (clo_T_api_Bond (x := { x_5 with Used := x_4.2 }) (Clo.sl (by kernel_rfl))) (by kernel_rfl) (by kernel_rfl) e_l_6) ?_
   refine SL.norm (itsN := [.rd 10 R_T_api_Bond l_1, .own 10 30 R_T_api_Bond l_6, .gone, .rd 2 R_T_api_Subscription x_5.Subs]) (by kernel_rfl) ?_
   refine SL.nilThen ?_
   refine SC.r tk [(4, vs 1)] [] [] [] (by kernel_rfl) ?_
   obtain rfl := some_inv' hp
   exact SC.re (js := [.g 0, .z 1]) tk (by kernel_rfl)

theorem ok_wirelessref02_Num (F : Nat) (size_1 : Int) (v_2 : Int) (r : (List Int)) (hp : wirelessref02_Num F size_1 v_2 = some r) : Spec Tryd.prog 43 [vi .i64 size_1, vi .u64 v_2] [] (vs 0) [.rd 1 R8 r] := by
 refine Spec.enter Tryd.func43 rfl Tryd.ntmps43 rfl rfl fun fx => ?_
 refine SC.r tk [(0, vi .i64 size_1), (1, vi .u64 v_2)] [] [] [] (by kernel_rfl) ?_
 refine SC.seq ?_
 refine SC.reg ?_
 refine SL.eff (e_lit (sz := 1) (E := 5) (R := R8) (by_ := 1) tk [] ([] : (List Int)) (by kernel_rfl) trivial rfl (by kernel_rfl) (by kernel_rfl)) rfl (by kernel_rfl) ?_
 refine SL.sim tk 1 [(0, vi .i64 size_1), (1, vi .u64 v_2), (5, vs 0)] [] [] [] (by kernel_rfl) ?_
 refine SL.nilThen ?_
 refine SC.cut (fun a w => ∃ (l_3 : (List Int)), wirelessref02_Num_j1 F l_3 = some r ∧ A 22 0 fx [(5, vs 0)] [.own 1 5 R8 l_3] a w) ?_ ?_
 · refine SC.r tk [(0, vi .i64 size_1), (1, vi .u64 v_2), (5, vs 0), (6, vi .i64 0)] [] [] [] (by kernel_rfl) ?_
   refine SC.block ?_
   obtain ⟨o1, hi1, ho1⟩ := bind_inv hp
   clear hp
   refine SC.loop (fun n a w => ∃ (x_4 : Int) (l_5 : (List Int)) (x_6 : Int), iter (fun s => wirelessref02_Num_l1 F size_1 s.1 s.2.1 s.2.2) n (x_4, l_5, x_6) = some o1 ∧ A 22 0 fx [(0, vi .i64 size_1), (1, vi .u64 x_4), (5, vs 0), (6, vi .i64 x_6)] [.own 1 5 R8 l_5] a w) F (fun a w h => ⟨v_2, ([] : (List Int)), 0, hi1, h.at (js := [.g 0]) (by kernel_rfl)⟩) ?_
   rintro n1 a w ⟨x_4, l_5, x_6, hi1, h⟩
   obtain ⟨n1, q1, rfl, hp, hs1⟩ := iter_inv hi1
   replace hp : wirelessref02_Num_l1 F size_1 x_4 l_5 x_6 = some q1 := hp
   clear hi1
   refine h.go ?_
   refine SC.seq ?_
   refine SC.r tk [(0, vi .i64 size_1), (1, vi .u64 x_4), (5, vs 0), (6, vi .i64 x_6), (10, vb (decide (x_6 < size_1)))] [] [] [] (by kernel_rfl) ?_
   refine SC.if' rfl hp (fun hp => ?_) (fun hp => ?_)
   · refine SC.skipThen ?_
     refine SC.seq ?_
     refine SC.block ?_
     refine SC.seq ?_
     refine SC.reg ?_
     refine SL.sim tk 4 [(0, vi .i64 size_1), (1, vi .u64 x_4), (5, vs 0), (6, vi .i64 x_6), (13, vs 0), (16, vi .u8 (wu8 (remp x_4 256)))] [] [.bin .rem .u64 x_4 256 (remp x_4 256) (by kernel_rfl)] [x_4, 256] (by kernel_rfl) ?_
     refine SL.eff (e_lit (sz := 1) (E := 5) (R := R8) (by_ := 1) tk [[ci .u8 (wu8 (remp x_4 256))]] [wu8 (remp x_4 256)] (by kernel_rfl) ⟨Clo.int, trivial⟩ rfl (by kernel_rfl) (by kernel_rfl)) rfl (by kernel_rfl) ?_
     obtain ⟨l_7, e_l_7, hp⟩ := bind_inv hp
     refine SL.eff (e_app (i := 0) (l := l_5) (sz := 1) (E := 5) (R := R8) (by_ := 1) (m := [wu8 (remp x_4 256)]) tk rfl (by kernel_rfl) rfl (.o 5 (by kernel_rfl)) e_l_7 (by kernel_rfl)) rfl (by kernel_rfl) ?_
     refine SL.sim tk 1 [(0, vi .i64 size_1), (1, vi .u64 x_4), (5, vs 2), (6, vi .i64 x_6)] [] [] [] (by kernel_rfl) ?_
     refine SL.nilThen ?_
     refine SC.reg ?_
     refine SL.sim tk 3 [(0, vi .i64 size_1), (1, vi .u64 (quop .u64 x_4 256)), (5, vs 2), (6, vi .i64 x_6)] [] [.bin .quo .u64 x_4 256 (quop .u64 x_4 256) (by kernel_rfl)] [x_4, 256] (by kernel_rfl) ?_
     refine SL.nilThen ?_
     refine SC.reg ?_
     refine SL.sim tk 3 [(0, vi .i64 size_1), (1, vi .u64 (quop .u64 x_4 256)), (5, vs 2), (6, vi .i64 (w64 (x_6 + 1)))] [] [] [] (by kernel_rfl) ?_
     refine SL.nilJ fun a w h => ?_
     exact ⟨n1, Nat.lt_succ_self _, (quop .u64 x_4 256), l_7, w64 (x_6 + 1), next_inv hp hs1, h.at (js := [.g 2]) (by kernel_rfl)⟩
   · refine SC.exitJ rfl fun a w h => ?_
     have ho := done_inv hp hs1
     replace hp := ho1
     try rw [ho] at hp
     exact ⟨l_5, hp, h.at (js := [.g 0]) (by kernel_rfl)⟩
 · rintro a w ⟨l_3, hp, h⟩
   refine h.go ?_
   refine SC.r tk [(4, vs 0)] [] [] [] (by kernel_rfl) ?_
   obtain rfl := some_inv' hp
   exact SC.re (js := [.z 0]) tk (by kernel_rfl)

theorem ok_wirelessref05_Low (F : Nat) (k_1 : Int) (i_2 : Int) (r : Int) (hp : wirelessref05_Low F k_1 i_2 = some r) : Spec Tryd.prog 127 [vi .u64 k_1, vi .i64 i_2] [] (vi .u32 r) [] := by
 refine Spec.enter Tryd.func127 rfl Tryd.ntmps127 rfl rfl fun fx => ?_
 refine SC.r tk [(0, vi .u64 k_1), (1, vi .i64 i_2)] [] [] [] (by kernel_rfl) ?_
 refine SC.r tk [(0, vi .u64 k_1), (5, vi .i64 (remp (w64 ((w64 ((remp i_2 64) + 64)) * 11)) 64))] [] [.bin .rem .i64 i_2 64 (remp i_2 64) (by kernel_rfl), .bin .rem .i64 (w64 ((w64 ((remp i_2 64) + 64)) * 11)) 64 (remp (w64 ((w64 ((remp i_2 64) + 64)) * 11)) 64) (by kernel_rfl)] [i_2, 64, w64 ((w64 ((remp i_2 64) + 64)) * 11), 64] (by kernel_rfl) ?_
 refine SC.r tk [(5, vi .i64 (remp (w64 ((w64 ((remp i_2 64) + 64)) * 11)) 64)), (6, vi .u64 k_1)] [] [] [] (by kernel_rfl) ?_
 refine SC.cut (fun a w => ∃ (x_3 : Int), wirelessref05_Low_j1 F x_3 = some r ∧ A 26 0 fx [(6, vi .u64 x_3)] [] a w) ?_ ?_
 · refine SC.r tk [(5, vi .i64 (remp (w64 ((w64 ((remp i_2 64) + 64)) * 11)) 64)), (6, vi .u64 k_1), (14, vb (decide ((remp (w64 ((w64 ((remp i_2 64) + 64)) * 11)) 64) > 0)))] [] [] [] (by kernel_rfl) ?_
   refine SC.if' rfl hp (fun hp => ?_) (fun hp => ?_)
   · refine SC.draw MO [] (by kernel_rfl) fun kap_4 D_5 => ?_
     obtain ⟨x_6, e_x_6, hp⟩ := bind_inv hp
     obtain ⟨x_7, e_x_7, hp⟩ := bind_inv hp
     refine SD.takes tk D_5 [] kn0 [0, 1, 2, 3, 4, 5, 6, 7, 8] [.bin .shl .u64 k_1 (remp (w64 ((w64 ((remp i_2 64) + 64)) * 11)) 64) x_6 e_x_6, .bin .shr .u64 k_1 (w64 (64 - (remp (w64 ((w64 ((remp i_2 64) + 64)) * 11)) 64))) x_7 e_x_7] [k_1, (remp (w64 ((w64 ((remp i_2 64) + 64)) * 11)) 64), k_1, w64 (64 - (remp (w64 ((w64 ((remp i_2 64) + 64)) * 11)) 64))] [I, I, I, I, I, I, I, I, I] [(6, vi .u64 (ior .u64 x_6 x_7))] rfl (by kernel_rfl) (by kernel_rfl) (by kernel_rfl) ?_
     refine SD.done (by kernel_rfl) fun a w h => ?_
     exact ⟨ior .u64 x_6 x_7, hp, h.at (js := []) (by kernel_rfl)⟩
   · refine SC.skipJ fun a w h => ?_
     exact ⟨k_1, hp, h.at (js := []) (by kernel_rfl)⟩
 · rintro a w ⟨x_3, hp, h⟩
   refine h.go ?_
   refine SC.r tk [(4, vi .u32 (wu32 (remp x_3 4294967296)))] [] [.bin .rem .u64 x_3 4294967296 (remp x_3 4294967296) (by kernel_rfl)] [x_3, 4294967296] (by kernel_rfl) ?_
   obtain rfl := some_inv' hp
   exact SC.re (js := []) tk (by kernel_rfl)

theorem ok_wirelessref05_Turn (F : Nat) (x_1 : Int) (n_2 : Int) (r : Int) (hp : wirelessref05_Turn F x_1 n_2 = some r) : Spec Tryd.prog 128 [vi .u32 x_1, vi .i64 n_2] [] (vi .u32 r) [] := by
 refine Spec.enter Tryd.func128 rfl Tryd.ntmps128 rfl rfl fun fx => ?_
 refine SC.r tk [(0, vi .u32 x_1), (1, vi .i64 n_2)] [] [] [] (by kernel_rfl) ?_
 refine SC.cut (fun a w => ∃ (x_3 : Int), wirelessref05_Turn_j1 F x_3 = some r ∧ A 13 0 fx [(4, vi .u32 x_3)] [] a w) ?_ ?_
 · refine SC.draw MO [] (by kernel_rfl) fun kap_4 D_5 => ?_
   obtain ⟨x_6, e_x_6, hp⟩ := bind_inv hp
   obtain ⟨x_7, e_x_7, hp⟩ := bind_inv hp
   refine SD.takes tk D_5 [] kn0 [0, 1, 2, 3, 4, 5, 6, 7, 8] [.bin .shl .u32 x_1 n_2 x_6 e_x_6, .bin .shr .u32 x_1 (w64 (32 - n_2)) x_7 e_x_7] [x_1, n_2, x_1, w64 (32 - n_2)] [I, I, I, I, I, I, I, I, I] [(4, vi .u32 (ior .u32 x_6 x_7))] rfl (by kernel_rfl) (by kernel_rfl) (by kernel_rfl) ?_
   refine SD.done (by kernel_rfl) fun a w h => ?_
   exact ⟨ior .u32 x_6 x_7, hp, h.at (js := []) (by kernel_rfl)⟩
 · rintro a w ⟨x_3, hp, h⟩
   refine h.go ?_
   obtain rfl := some_inv' hp
   exact SC.re (js := []) tk (by kernel_rfl)

theorem ok_wirelessref05_Round (F : Nat) (k_1 : Int) (i_2 : Int) (half_3 : Int) (r : Int) (hp : wirelessref05_Round F k_1 i_2 half_3 = some r) : Spec Tryd.prog 123 [vi .u64 k_1, vi .i64 i_2, vi .u32 half_3] [] (vi .u32 r) [] := by
 refine Spec.enter Tryd.func123 rfl Tryd.ntmps123 rfl rfl fun fx => ?_
 refine SC.r tk [(0, vi .u64 k_1), (1, vi .i64 i_2), (2, vi .u32 half_3)] [] [] [] (by kernel_rfl) ?_
 refine SC.seq ?_
 refine SC.reg ?_
 refine SL.sim tk 2 [(2, vi .u32 half_3), (8, vi .u64 k_1), (9, vi .i64 i_2)] [] [] [] (by kernel_rfl) ?_
 obtain ⟨x_4, e_x_4, hp⟩ := bind_inv hp
 refine SL.eff (e_c Tryd.call127 (ok_wirelessref05_Low F k_1 i_2 _ e_x_4) [] [vi .u64 k_1, vi .i64 i_2] (vi .u32 x_4) (by kernel_rfl) (.inl rfl)) rfl (by kernel_rfl) ?_
 refine SL.sim tk 1 [(2, vi .u32 half_3), (7, vi .u32 x_4)] [] [] [] (by kernel_rfl) ?_
 refine SL.nilThen ?_
 refine SC.seq ?_
 refine SC.reg ?_
 refine SL.sim tk 3 [(7, vi .u32 x_4), (13, vi .u32 (wu32 (half_3 + x_4)))] [] [] [] (by kernel_rfl) ?_
 obtain ⟨x_5, e_x_5, hp⟩ := bind_inv hp
 refine SL.eff (e_c Tryd.call128 (ok_wirelessref05_Turn F (wu32 (half_3 + x_4)) 7 _ e_x_5) [] [vi .u32 (wu32 (half_3 + x_4)), vi .i64 7] (vi .u32 x_5) (by kernel_rfl) (.inl rfl)) rfl (by kernel_rfl) ?_
 refine SL.norm (itsN := []) (by kernel_rfl) ?_
 refine SL.sim tk 2 [(15, vi .u32 (wu32 (x_5 * 2654435761))), (16, vi .u32 x_4)] [] [] [] (by kernel_rfl) ?_
 obtain ⟨x_6, e_x_6, hp⟩ := bind_inv hp
 refine SL.eff (e_c Tryd.call128 (ok_wirelessref05_Turn F x_4 16 _ e_x_6) [] [vi .u32 x_4, vi .i64 16] (vi .u32 x_6) (by kernel_rfl) (.inl rfl)) rfl (by kernel_rfl) ?_
 refine SL.sim tk 2 [(6, vi .u32 (ixor .u32 (wu32 (x_5 * 2654435761)) x_6))] [] [] [] (by kernel_rfl) ?_
 refine SL.nilThen ?_
 obtain rfl := some_inv' hp
 exact SC.re (js := []) tk (by kernel_rfl)

theorem ok_wirelessref05_Mix (F : Nat) (k_1 : Int) (x_2 : Int) (r : Int) (hp : wirelessref05_Mix F k_1 x_2 = some r) : Spec Tryd.prog 116 [vi .u64 k_1, vi .u64 x_2] [] (vi .u64 r) [] := by
 refine Spec.enter Tryd.func116 rfl Tryd.ntmps116 rfl rfl fun fx => ?_
 refine SC.r tk [(0, vi .u64 k_1), (1, vi .u64 x_2)] [] [] [] (by kernel_rfl) ?_
 refine SC.r tk [(0, vi .u64 k_1), (1, vi .u64 x_2), (5, vi .u32 (wu32 (quop .u64 x_2 4294967296)))] [] [.bin .quo .u64 x_2 4294967296 (quop .u64 x_2 4294967296) (by kernel_rfl)] [x_2, 4294967296] (by kernel_rfl) ?_
 refine SC.r tk [(0, vi .u64 k_1), (5, vi .u32 (wu32 (quop .u64 x_2 4294967296))), (6, vi .u32 (wu32 (remp x_2 4294967296)))] [] [.bin .rem .u64 x_2 4294967296 (remp x_2 4294967296) (by kernel_rfl)] [x_2, 4294967296] (by kernel_rfl) ?_
 refine SC.cut (fun a w => ∃ (x_3 : Int) (x_4 : Int), wirelessref05_Mix_j1 F x_3 x_4 = some r ∧ A 33 0 fx [(5, vi .u32 x_3), (6, vi .u32 x_4)] [] a w) ?_ ?_
 · refine SC.r tk [(0, vi .u64 k_1), (5, vi .u32 (wu32 (quop .u64 x_2 4294967296))), (6, vi .u32 (wu32 (remp x_2 4294967296))), (7, vi .i64 0)] [] [] [] (by kernel_rfl) ?_
   refine SC.block ?_
   obtain ⟨o1, hi1, ho1⟩ := bind_inv hp
   clear hp
   refine SC.loop (fun n a w => ∃ (x_5 : Int) (x_6 : Int) (x_7 : Int), iter (fun s => wirelessref05_Mix_l1 F k_1 s.1 s.2.1 s.2.2) n (x_5, x_6, x_7) = some o1 ∧ A 33 0 fx [(0, vi .u64 k_1), (5, vi .u32 x_5), (6, vi .u32 x_6), (7, vi .i64 x_7)] [] a w) F (fun a w h => ⟨wu32 (quop .u64 x_2 4294967296), wu32 (remp x_2 4294967296), 0, hi1, h.at (js := []) (by kernel_rfl)⟩) ?_
   rintro n1 a w ⟨x_5, x_6, x_7, hi1, h⟩
   obtain ⟨n1, q1, rfl, hp, hs1⟩ := iter_inv hi1
   replace hp : wirelessref05_Mix_l1 F k_1 x_5 x_6 x_7 = some q1 := hp
   clear hi1
   refine h.go ?_
   refine SC.seq ?_
   refine SC.r tk [(0, vi .u64 k_1), (5, vi .u32 x_5), (6, vi .u32 x_6), (7, vi .i64 x_7), (16, vb (decide (x_7 < 8)))] [] [] [] (by kernel_rfl) ?_
   refine SC.if' rfl hp (fun hp => ?_) (fun hp => ?_)
   · refine SC.skipThen ?_
     refine SC.seq ?_
     refine SC.block ?_
     refine SC.seq ?_
     refine SC.reg ?_
     refine SL.sim tk 4 [(0, vi .u64 k_1), (6, vi .u32 x_6), (7, vi .i64 x_7), (19, vi .u32 x_5), (20, vi .u64 k_1), (21, vi .i64 x_7), (22, vi .u32 x_6)] [] [] [] (by kernel_rfl) ?_
     obtain ⟨x_8, e_x_8, hp⟩ := bind_inv hp
     refine SL.eff (e_c Tryd.call123 (ok_wirelessref05_Round F k_1 x_7 x_6 _ e_x_8) [] [vi .u64 k_1, vi .i64 x_7, vi .u32 x_6] (vi .u32 x_8) (by kernel_rfl) (.inl rfl)) rfl (by kernel_rfl) ?_
     refine SL.sim tk 2 [(0, vi .u64 k_1), (6, vi .u32 x_6), (7, vi .i64 x_7), (8, vi .u32 (ixor .u32 x_5 x_8))] [] [] [] (by kernel_rfl) ?_
     refine SL.nilThen ?_
     refine SC.r tk [(0, vi .u64 k_1), (5, vi .u32 x_6), (7, vi .i64 x_7), (8, vi .u32 (ixor .u32 x_5 x_8))] [] [] [] (by kernel_rfl) ?_
     refine SC.reg ?_
     refine SL.sim tk 2 [(0, vi .u64 k_1), (5, vi .u32 x_6), (6, vi .u32 (ixor .u32 x_5 x_8)), (7, vi .i64 x_7)] [] [] [] (by kernel_rfl) ?_
     refine SL.nilThen ?_
     refine SC.reg ?_
     refine SL.sim tk 3 [(0, vi .u64 k_1), (5, vi .u32 x_6), (6, vi .u32 (ixor .u32 x_5 x_8)), (7, vi .i64 (w64 (x_7 + 1)))] [] [] [] (by kernel_rfl) ?_
     refine SL.nilJ fun a w h => ?_
     exact ⟨n1, Nat.lt_succ_self _, x_6, ixor .u32 x_5 x_8, w64 (x_7 + 1), next_inv hp hs1, h.at (js := []) (by kernel_rfl)⟩
   · refine SC.exitJ rfl fun a w h => ?_
     have ho := done_inv hp hs1
     replace hp := ho1
     try rw [ho] at hp
     exact ⟨x_5, x_6, hp, h.at (js := []) (by kernel_rfl)⟩
 · rintro a w ⟨x_3, x_4, hp, h⟩
   refine h.go ?_
   refine SC.r tk [(4, vi .u64 (wu64 ((wu64 ((wu64 x_3) * 4294967296)) + (wu64 x_4))))] [] [] [] (by kernel_rfl) ?_
   obtain rfl := some_inv' hp
   exact SC.re (js := []) tk (by kernel_rfl)

theorem ok_wirelessref02_Value (F : Nat) (b_1 : (List Int)) (r : Int) (hp : wirelessref02_Value F b_1 = some r) : Spec Tryd.prog 47 [vs 0] [.rd 1 R8 b_1] (vi .u64 r) [.gone] := by
 refine Spec.enter Tryd.func47 rfl Tryd.ntmps47 rfl rfl fun fx => ?_
 refine SC.r tk [(0, vs 0)] [] [] [] (by kernel_rfl) ?_
 refine SC.r tk [(0, vs 0), (3, vi .u64 0)] [] [] [] (by kernel_rfl) ?_
 refine SC.cut (fun a w => ∃ (x_2 : Int), wirelessref02_Value_j1 F x_2 = some r ∧ A 21 1 fx [(3, vi .u64 x_2)] [.gone] a w) ?_ ?_
 · refine SC.r tk [(0, vs 0), (3, vi .u64 0), (4, vi .i64 (w64 ((len b_1) - 1)))] [] [] [] (by kernel_rfl) ?_
   refine SC.block ?_
   obtain ⟨o1, hi1, ho1⟩ := bind_inv hp
   clear hp
   refine SC.loop (fun n a w => ∃ (x_3 : Int) (x_4 : Int), iter (fun s => wirelessref02_Value_l1 F b_1 s.1 s.2) n (x_3, x_4) = some o1 ∧ A 21 1 fx [(0, vs 0), (3, vi .u64 x_3), (4, vi .i64 x_4)] [.rd 1 R8 b_1] a w) F (fun a w h => ⟨0, w64 ((len b_1) - 1), hi1, h.at (js := [.g 0]) (by kernel_rfl)⟩) ?_
   rintro n1 a w ⟨x_3, x_4, hi1, h⟩
   obtain ⟨n1, q1, rfl, hp, hs1⟩ := iter_inv hi1
   replace hp : wirelessref02_Value_l1 F b_1 x_3 x_4 = some q1 := hp
   clear hi1
   refine h.go ?_
   refine SC.seq ?_
   refine SC.r tk [(0, vs 0), (3, vi .u64 x_3), (4, vi .i64 x_4), (9, vb (decide (x_4 ≥ 0)))] [] [] [] (by kernel_rfl) ?_
   refine SC.if' rfl hp (fun hp => ?_) (fun hp => ?_)
   · refine SC.skipThen ?_
     refine SC.seq ?_
     refine SC.block ?_
     refine SC.reg ?_
     obtain ⟨x_5, e_x_5, hp⟩ := bind_inv hp
     refine SL.pre (pre_ix (i := 0) (iv := x_4) (sz := 1) (R := R8) (l := b_1) (by kernel_rfl) rfl e_x_5) ?_
     refine SL.sim tk 9 [(0, vs 0), (3, vi .u64 (wu64 ((wu64 (x_3 * 256)) + (wu64 x_5)))), (4, vi .i64 x_4)] [] [.el 1] [x_4] (by kernel_rfl) ?_
     refine SL.nilThen ?_
     refine SC.reg ?_
     refine SL.sim tk 3 [(0, vs 0), (3, vi .u64 (wu64 ((wu64 (x_3 * 256)) + (wu64 x_5)))), (4, vi .i64 (w64 (x_4 - 1)))] [] [] [] (by kernel_rfl) ?_
     refine SL.nilJ fun a w h => ?_
     exact ⟨n1, Nat.lt_succ_self _, wu64 ((wu64 (x_3 * 256)) + (wu64 x_5)), w64 (x_4 - 1), next_inv hp hs1, h.at (js := [.g 0]) (by kernel_rfl)⟩
   · refine SC.exitJ rfl fun a w h => ?_
     have ho := done_inv hp hs1
     replace hp := ho1
     try rw [ho] at hp
     exact ⟨x_3, hp, h.at (js := [.g 0]) (by kernel_rfl)⟩
 · rintro a w ⟨x_2, hp, h⟩
   refine h.go ?_
   refine SC.r tk [(2, vi .u64 x_2)] [] [] [] (by kernel_rfl) ?_
   obtain rfl := some_inv' hp
   exact SC.re (js := [.g 0]) tk (by kernel_rfl)

theorem ok_wirelessref06_Tag (F : Nat) (k_1 : Int) (b_2 : (List Int)) (r : Int) (hp : wirelessref06_Tag F k_1 b_2 = some r) : Spec Tryd.prog 110 [vi .u64 k_1, vs 0] [.rd 1 R8 b_2] (vi .u64 r) [.gone] := by
 refine Spec.enter Tryd.func110 rfl Tryd.ntmps110 rfl rfl fun fx => ?_
 refine SC.r tk [(0, vi .u64 k_1), (1, vs 0)] [] [] [] (by kernel_rfl) ?_
 refine SC.seq ?_
 refine SC.reg ?_
 refine SL.sim tk 4 [(0, vi .u64 k_1), (1, vs 0), (7, vi .u64 k_1), (10, vi .u64 (wu64 (len b_2)))] [] [] [] (by kernel_rfl) ?_
 obtain ⟨x_3, e_x_3, hp⟩ := bind_inv hp
 refine SL.eff (e_c Tryd.call116 (ok_wirelessref05_Mix F k_1 (wu64 (len b_2)) _ e_x_3) [] [vi .u64 k_1, vi .u64 (wu64 (len b_2))] (vi .u64 x_3) (by kernel_rfl) (.inl rfl)) rfl (by kernel_rfl) ?_
 refine SL.sim tk 1 [(0, vi .u64 k_1), (1, vs 0), (5, vi .u64 x_3)] [] [] [] (by kernel_rfl) ?_
 refine SL.nilThen ?_
 refine SC.cut (fun a w => ∃ (x_4 : Int), wirelessref06_Tag_j1 F x_4 = some r ∧ A 32 1 fx [(5, vi .u64 x_4)] [.gone] a w) ?_ ?_
 · refine SC.r tk [(0, vi .u64 k_1), (1, vs 0), (5, vi .u64 x_3), (6, vi .i64 0)] [] [] [] (by kernel_rfl) ?_
   refine SC.block ?_
   obtain ⟨o1, hi1, ho1⟩ := bind_inv hp
   clear hp
   refine SC.loop (fun n a w => ∃ (x_5 : Int) (x_6 : Int), iter (fun s => wirelessref06_Tag_l1 F k_1 b_2 s.1 s.2) n (x_5, x_6) = some o1 ∧ A 32 1 fx [(0, vi .u64 k_1), (1, vs 0), (5, vi .u64 x_5), (6, vi .i64 x_6)] [.rd 1 R8 b_2] a w) F (fun a w h => ⟨x_3, 0, hi1, h.at (js := [.g 0]) (by kernel_rfl)⟩) ?_
   rintro n1 a w ⟨x_5, x_6, hi1, h⟩
   obtain ⟨n1, q1, rfl, hp, hs1⟩ := iter_inv hi1
   replace hp : wirelessref06_Tag_l1 F k_1 b_2 x_5 x_6 = some q1 := hp
   clear hi1
   refine h.go ?_
   refine SC.seq ?_
   refine SC.r tk [(0, vi .u64 k_1), (1, vs 0), (5, vi .u64 x_5), (6, vi .i64 x_6), (15, vb (decide (x_6 < (len b_2))))] [] [] [] (by kernel_rfl) ?_
   refine SC.if' rfl hp (fun hp => ?_) (fun hp => ?_)
   · refine SC.skipThen ?_
     refine SC.seq ?_
     refine SC.block ?_
     refine SC.reg ?_
     refine SL.sim tk 9 [(0, vi .u64 k_1), (1, vs 0), (5, vi .u64 x_5), (6, vi .i64 x_6), (18, vi .u64 k_1), (19, vi .u64 x_5), (20, vs 0), (21, vi .i64 x_6), (26, vi .i64 (imin (w64 (x_6 + 8)) (len b_2)))] [] [] [] (by kernel_rfl) ?_
     obtain ⟨l_7, e_l_7, hp⟩ := bind_inv hp
     refine SL.eff (e_sub (sz := 1) (E := 5) (R := R8) (by_ := 1) (l := b_2) tk rfl (.inl ⟨0, rfl, (by kernel_rfl)⟩) rfl rfl e_l_7 (by kernel_rfl)) rfl (by kernel_rfl) ?_
     obtain ⟨x_8, e_x_8, hp⟩ := bind_inv hp
     refine SL.eff (e_c Tryd.call47 (ok_wirelessref02_Value F l_7 _ e_x_8) [.g 1] [vs 1] (vi .u64 x_8) (by kernel_rfl) (.inl rfl)) rfl (by kernel_rfl) ?_
     refine SL.sim tk 1 [(0, vi .u64 k_1), (1, vs 0), (5, vi .u64 x_5), (6, vi .i64 x_6), (18, vi .u64 k_1), (29, vi .u64 (ixor .u64 x_5 x_8))] [] [] [] (by kernel_rfl) ?_
     obtain ⟨x_9, e_x_9, hp⟩ := bind_inv hp
     refine SL.eff (e_c Tryd.call116 (ok_wirelessref05_Mix F k_1 (ixor .u64 x_5 x_8) _ e_x_9) [] [vi .u64 k_1, vi .u64 (ixor .u64 x_5 x_8)] (vi .u64 x_9) (by kernel_rfl) (.inl rfl)) rfl (by kernel_rfl) ?_
     refine SL.norm (itsN := [.rd 1 R8 b_2, .rd 1 R8 l_7]) (by kernel_rfl) ?_
     refine SL.sim tk 1 [(0, vi .u64 k_1), (1, vs 0), (5, vi .u64 x_9), (6, vi .i64 x_6)] [] [] [] (by kernel_rfl) ?_
     refine SL.nilThen ?_
     refine SC.reg ?_
     refine SL.sim tk 3 [(0, vi .u64 k_1), (1, vs 0), (5, vi .u64 x_9), (6, vi .i64 (w64 (x_6 + 8)))] [] [] [] (by kernel_rfl) ?_
     refine SL.nilJ fun a w h => ?_
     exact ⟨n1, Nat.lt_succ_self _, x_9, w64 (x_6 + 8), next_inv hp hs1, h.at (js := [.g 0]) (by kernel_rfl)⟩
   · refine SC.exitJ rfl fun a w h => ?_
     have ho := done_inv hp hs1
     replace hp := ho1
     try rw [ho] at hp
     exact ⟨x_5, hp, h.at (js := [.g 0]) (by kernel_rfl)⟩
 · rintro a w ⟨x_4, hp, h⟩
   refine h.go ?_
   refine SC.r tk [(4, vi .u64 x_4)] [] [] [] (by kernel_rfl) ?_
   obtain rfl := some_inv' hp
   exact SC.re (js := [.g 0]) tk (by kernel_rfl)

theorem ok_wirelessref06_Derive (F : Nat) (k_1 : Int) (label_2 : List Int) (parts_3 : (List Int)) (r : Int) (hp : wirelessref06_Derive F k_1 label_2 parts_3 = some r) : Spec Tryd.prog 103 [vi .u64 k_1, vt 0, vs 1] [.str label_2, .rd 1 (RInt .u64) parts_3] (vi .u64 r) [.gone, .gone] := by
 refine Spec.enter Tryd.func103 rfl Tryd.ntmps103 rfl rfl fun fx => ?_
 refine SC.r tk [(0, vi .u64 k_1), (1, vt 0), (2, vs 1)] [] [] [] (by kernel_rfl) ?_
 refine SC.seq ?_
 refine SC.reg ?_
 refine SL.sim tk 1 [(0, vi .u64 k_1), (2, vs 1), (9, vt 0)] [] [] [] (by kernel_rfl) ?_
 obtain ⟨l_4, e_l_4, hp⟩ := bind_inv hp
 refine SL.eff (e_s2b (E := 5) tk rfl (.t rfl) e_l_4 (by kernel_rfl)) rfl (by kernel_rfl) ?_
 refine SL.eff (e_lit (sz := 1) (E := 5) (R := R8) (by_ := 1) tk [[ci .u8 0]] [0] (by kernel_rfl) ⟨Clo.int, trivial⟩ rfl (by kernel_rfl) (by kernel_rfl)) rfl (by kernel_rfl) ?_
 obtain ⟨l_5, e_l_5, hp⟩ := bind_inv hp
 refine SL.eff (e_app (i := 2) (l := l_4) (sz := 1) (E := 5) (R := R8) (by_ := 1) (m := [0]) tk rfl (by kernel_rfl) rfl (.o 5 (by kernel_rfl)) e_l_5 (by kernel_rfl)) rfl (by kernel_rfl) ?_
 refine SL.sim tk 1 [(0, vi .u64 k_1), (2, vs 1), (7, vs 4)] [] [] [] (by kernel_rfl) ?_
 refine SL.nilThen ?_
 refine SC.cut (fun a w => ∃ (l_6 : (List Int)), wirelessref06_Derive_j1 F k_1 l_6 = some r ∧ A 29 2 fx [(0, vi .u64 k_1), (7, vs 2)] [.gone, .gone, .own 1 5 R8 l_6] a w) ?_ ?_
 · refine SC.r tk [(0, vi .u64 k_1), (2, vs 1), (7, vs 4), (8, vi .i64 0)] [] [] [] (by kernel_rfl) ?_
   refine SC.block ?_
   obtain ⟨o1, hi1, ho1⟩ := bind_inv hp
   clear hp
   refine SC.loop (fun n a w => ∃ (l_8 : (List Int)) (x_9 : Int), iter (fun s => wirelessref06_Derive_l1 F parts_3 s.1 s.2) n (l_8, x_9) = some o1 ∧ A 29 2 fx [(0, vi .u64 k_1), (2, vs 1), (7, vs 2), (8, vi .i64 x_9)] [.gone, .rd 1 (RInt .u64) parts_3, .own 1 5 R8 l_8] a w) F (fun a w h => ⟨l_5, 0, hi1, h.at (js := [.g 0, .g 1, .g 4]) (by kernel_rfl)⟩) ?_
   rintro n1 a w ⟨l_8, x_9, hi1, h⟩
   obtain ⟨n1, q1, rfl, hp, hs1⟩ := iter_inv hi1
   replace hp : wirelessref06_Derive_l1 F parts_3 l_8 x_9 = some q1 := hp
   clear hi1
   refine h.go ?_
   refine SC.seq ?_
   refine SC.r tk [(0, vi .u64 k_1), (2, vs 1), (7, vs 2), (8, vi .i64 x_9), (16, vb (decide (x_9 < (len parts_3))))] [] [] [] (by kernel_rfl) ?_
   refine SC.if' rfl hp (fun hp => ?_) (fun hp => ?_)
   · refine SC.skipThen ?_
     refine SC.seq ?_
     refine SC.block ?_
     refine SC.reg ?_
     obtain ⟨x_10, e_x_10, hp⟩ := bind_inv hp
     refine SL.pre (pre_ix (i := 1) (iv := x_9) (sz := 1) (R := (RInt .u64)) (l := parts_3) (by kernel_rfl) rfl e_x_10) ?_
     refine SL.sim tk 5 [(0, vi .u64 k_1), (2, vs 1), (7, vs 2), (8, vi .i64 x_9), (19, vs 2), (23, vi .u64 x_10)] [] [.el 3] [x_9] (by kernel_rfl) ?_
     obtain ⟨x_11, e_x_11, hp⟩ := bind_inv hp
     refine SL.eff (e_c Tryd.call43 (ok_wirelessref02_Num F 8 x_10 _ e_x_11) [] [vi .i64 8, vi .u64 x_10] (vs 4) (by kernel_rfl) (.inl rfl)) rfl (by kernel_rfl) ?_
     obtain ⟨l_12, e_l_12, hp⟩ := bind_inv hp
     refine SL.eff (e_app (i := 2) (l := l_8) (sz := 1) (E := 5) (R := R8) (by_ := 1) (m := x_11) tk rfl (by kernel_rfl) rfl (.r (by kernel_rfl)) e_l_12 (by kernel_rfl)) rfl (by kernel_rfl) ?_
     refine SL.norm (itsN := [.gone, .rd 1 (RInt .u64) parts_3, .gone, .elt (some (1, x_9)) false [ci .u64 x_10], .rd 1 R8 x_11, .own 1 5 R8 l_12]) (by kernel_rfl) ?_
     refine SL.sim tk 1 [(0, vi .u64 k_1), (2, vs 1), (7, vs 5), (8, vi .i64 x_9)] [] [] [] (by kernel_rfl) ?_
     refine SL.nilThen ?_
     refine SC.reg ?_
     refine SL.sim tk 3 [(0, vi .u64 k_1), (2, vs 1), (7, vs 5), (8, vi .i64 (w64 (x_9 + 1)))] [] [] [] (by kernel_rfl) ?_
     refine SL.nilJ fun a w h => ?_
     exact ⟨n1, Nat.lt_succ_self _, l_12, w64 (x_9 + 1), next_inv hp hs1, h.at (js := [.g 0, .g 1, .g 5]) (by kernel_rfl)⟩
   · refine SC.exitJ rfl fun a w h => ?_
     have ho := done_inv hp hs1
     replace hp := ho1
     try rw [ho] at hp
     exact ⟨l_8, hp, h.at (js := [.g 0, .g 1, .g 2]) (by kernel_rfl)⟩
 · rintro a w ⟨l_6, hp, h⟩
   refine h.go ?_
   refine SC.seq ?_
   refine SC.reg ?_
   refine SL.sim tk 2 [(26, vi .u64 k_1), (27, vs 2)] [] [] [] (by kernel_rfl) ?_
   obtain ⟨x_7, e_x_7, hp⟩ := bind_inv hp
   refine SL.eff (e_c Tryd.call110 (ok_wirelessref06_Tag F k_1 l_6 _ e_x_7) [.l 2] [vi .u64 k_1, vs 2] (vi .u64 x_7) (by kernel_rfl) (.inr ⟨trivial, trivial⟩)) rfl (by kernel_rfl) ?_
   refine SL.sim tk 1 [(6, vi .u64 x_7)] [] [] [] (by kernel_rfl) ?_
   refine SL.nilThen ?_
   obtain rfl := some_inv' hp
   exact SC.re (js := [.g 0, .g 1]) tk (by kernel_rfl)

theorem ok_wirelessref09_Hash (F : Nat) (irk_1 : Int) (prand_2 : Int) (r : Int) (hp : wirelessref09_Hash F irk_1 prand_2 = some r) : Spec Tryd.prog 93 [vi .u64 irk_1, vi .u64 prand_2] [] (vi .u64 r) [] := by
 refine Spec.enter Tryd.func93 rfl Tryd.ntmps93 rfl rfl fun fx => ?_
 refine SC.r tk [(0, vi .u64 irk_1), (1, vi .u64 prand_2)] [] [] [] (by kernel_rfl) ?_
 refine SC.seq ?_
 refine SC.reg ?_
 refine SL.sim tk 2 [(5, vi .u64 irk_1), (6, vi .u64 prand_2)] [] [] [] (by kernel_rfl) ?_
 refine SL.eff (e_lit (sz := 1) (E := 22) (R := (RInt .u64)) (by_ := 8) tk [[ci .u64 prand_2]] [prand_2] (by kernel_rfl) ⟨Clo.int, trivial⟩ rfl (by kernel_rfl) (by kernel_rfl)) rfl (by kernel_rfl) ?_
 obtain ⟨x_3, e_x_3, hp⟩ := bind_inv hp
 refine SL.eff (e_c Tryd.call103 (ok_wirelessref06_Derive F irk_1 [114, 112, 97] [prand_2] _ e_x_3) [.k ⟨#[114, 112, 97]⟩, .l 0] [vi .u64 irk_1, .c (.v (.string ⟨#[114, 112, 97]⟩)), vs 0] (vi .u64 x_3) (by kernel_rfl) (.inr ⟨trivial, trivial, trivial⟩)) rfl (by kernel_rfl) ?_
 refine SL.sim tk 2 [(4, vi .u64 (remp x_3 16777216))] [] [.bin .rem .u64 x_3 16777216 (remp x_3 16777216) (by kernel_rfl)] [x_3, 16777216] (by kernel_rfl) ?_
 refine SL.nilThen ?_
 obtain rfl := some_inv' hp
 exact SC.re (js := []) tk (by kernel_rfl)
end V
end Go.Proofs.YtbdhonofhlpdoaaDoor
