/-
  Walks, written by program: each Go function returns what its pure twin says.
-/
import Derived.Test.YtbdhonofhlpdoaaDoorW0
namespace Go.Proofs.YtbdhonofhlpdoaaDoor
namespace V
theorem ok_mac_Tag (F : Nat) (k_1 : Int) (b_2 : (List Int)) (r : Int) (hp : mac_Tag F k_1 b_2 = some r) : Spec Tryd.prog 108 [vi .u64 k_1, vs 0] [.rd 1 R8 b_2] (vi .u64 r) [.gone] := by
 refine Spec.enterM Tryd.func108 rfl Tryd.ntmps108 rfl rfl fun fx => ?_
 refine SC.seq ?_
 refine SC.reg ?_
 refine SL.eff (e_box (E := 25) [ci .u64 k_1] (by kernel_rfl)) rfl (by kernel_rfl) ?_
 refine SL.sim tk 1 [(1, vs 0), (2, vp 1 0)] [] [] [] (by kernel_rfl) ?_
 refine SL.nilThen ?_
 refine SC.seq ?_
 refine SC.reg ?_
 refine SL.sim tk 4 [(1, vs 0), (2, vp 1 0), (7, vi .u64 k_1), (10, vi .u64 (wu64 (len b_2)))] [] [] [] (by kernel_rfl) ?_
 obtain ⟨x_3, e_x_3, hp⟩ := bind_inv hp
 refine SL.eff (e_c Tryd.call114 (ok_block_Mix F k_1 (wu64 (len b_2)) _ e_x_3) [] [vi .u64 k_1, vi .u64 (wu64 (len b_2))] (vi .u64 x_3) (by kernel_rfl) (.inl rfl)) rfl (by kernel_rfl) ?_
 refine SL.eff (e_alloc (E := 22) tk [ci .u64 0] (by kernel_rfl)) rfl (by kernel_rfl) ?_
 refine SL.norm (itsN := [.rd 1 R8 b_2, .blk 25 [ci .u64 k_1], .blk 22 [ci .u64 0]]) (by kernel_rfl) ?_
 refine SL.sim tk 1 [(1, vs 0), (2, vp 1 0), (5, vp 2 0)] [(2, 22, [ci .u64 x_3])] [] [] (by kernel_rfl) ?_
 refine SL.nilThen ?_
 refine SC.seq ?_
 refine SC.seq ?_
 refine SC.reg ?_
 refine SL.sim tk 1 [(2, vp 1 0), (5, vp 2 0), (12, vs 0)] [] [] [] (by kernel_rfl) ?_
 refine SL.eff (e_c Tryd.call115 (ok_mac_groups b_2) [.g 0] [vs 0] (.f 122 [.p 3 0]) (by kernel_rfl) (.inl rfl)) rfl (by kernel_rfl) ?_
 refine SL.nilThen ?_
 obtain ⟨o_4, e_o_4, hp⟩ := bind_inv hp
 refine SC.mk fun a w h => (show A 21 1 fx [(2, vp 1 0), (5, vp 2 0), (13, .f 122 [.p 3 0])] [.gone, .blk 25 [ci .u64 k_1], .blk 22 [ci .u64 x_3], .blk 31 [.s 4], .rd 1 R8 b_2] a w from h.at (js := [.g 0, .g 1, .g 2, .g 3, .g 0]) (by kernel_rfl)).go ?_
 refine SC.range (pl := [14]) (itsE := [.gone, .gone, .blk 22 [ci .u64 o_4], .gone, .gone]) (its2 := [.gone, .gone, .blk 22 [ci .u64 o_4], .gone, .gone]) (envR := [(5, vp 2 0)]) (env2 := [(4, vi .u64 o_4)]) rfl Tryd.call122 Tryd.func122 rfl Tryd.ntmps122 rfl rfl rfl rfl rfl rfl (fun fx l rec hu hx hw hst hpe hpl has hbo hS => ?_) (fun fx => ?_) rfl (fun a w h => ?_)
 · replace hp := e_o_4
   refine SC.r tk [(0, yv l), (1, vp 3 0), (3, vi .i64 0)] [] [] [] (by kernel_rfl) ?_
   refine SC.block ?_
   obtain ⟨o1, hi1, ho1⟩ := bind_inv hp
   clear hp
   refine SC.loop (fun n a w => ∃ (x_6 : Int) (x_7 : Int), iter (fun s => mac_Tag_it_l1 F k_1 b_2 s.1 s.2) n (x_6, x_7) = some o1 ∧ A 39 5 fx [(0, yv l), (1, vp 3 0), (3, vi .i64 x_7)] [.gone, .blk 25 [ci .u64 k_1], .blk 22 [ci .u64 x_6], .blk 31 [.s 4], .rd 1 R8 b_2] a w) F (fun a w h => ⟨x_3, 0, hi1, h.at (js := [.g 0, .g 1, .g 2, .g 3, .g 4]) (by kernel_rfl)⟩) ?_
   rintro n1 a w ⟨x_6, x_7, hi1, h⟩
   obtain ⟨n1, q1, rfl, hp, hs1⟩ := iter_inv hi1
   replace hp : mac_Tag_it_l1 F k_1 b_2 x_6 x_7 = some q1 := hp
   clear hi1
   refine h.go ?_
   refine SC.seq ?_
   refine SC.r tk [(0, yv l), (1, vp 3 0), (3, vi .i64 x_7), (10, vb (decide (x_7 < (len b_2))))] [] [] [] (by kernel_rfl) ?_
   refine SC.if' rfl hp (fun hp => ?_) (fun hp => ?_)
   · refine SC.skipThen ?_
     refine SC.cut (fun a w => ∃ (x_8 : Int), mac_Tag_it_j1 F x_7 x_8 = some q1 ∧ A 39 5 fx [(0, yv l), (1, vp 3 0), (3, vi .i64 x_7)] [.gone, .blk 25 [ci .u64 k_1], .blk 22 [ci .u64 x_8], .blk 31 [.s 4], .rd 1 R8 b_2] a w) ?_ ?_
     · refine SC.block ?_
       refine SC.r tk [(0, yv l), (1, vp 3 0), (3, vi .i64 x_7), (4, vi .u64 0)] [] [] [] (by kernel_rfl) ?_
       refine SC.cut (fun a w => ∃ (x_9 : Int), mac_Tag_it_j2 F k_1 x_6 x_7 x_9 = some q1 ∧ A 39 5 fx [(0, yv l), (1, vp 3 0), (3, vi .i64 x_7), (4, vi .u64 x_9)] [.gone, .blk 25 [ci .u64 k_1], .blk 22 [ci .u64 x_6], .blk 31 [.s 4], .rd 1 R8 b_2] a w) ?_ ?_
       · refine SC.seq ?_
         refine SC.reg ?_
         refine SL.sim tk 7 [(0, yv l), (1, vp 3 0), (3, vi .i64 x_7), (4, vi .u64 0), (13, vs 4), (14, vi .i64 x_7), (19, vi .i64 (imin (w64 (x_7 + 8)) (len b_2)))] [] [] [] (by kernel_rfl) ?_
         obtain ⟨l_12, e_l_12, hp⟩ := bind_inv hp
         refine SL.eff (e_sub (sz := 1) (E := 5) (R := R8) (by_ := 1) (l := b_2) tk rfl (.inl ⟨4, rfl, (by kernel_rfl)⟩) rfl rfl e_l_12 (by kernel_rfl)) rfl (by kernel_rfl) ?_
         refine SL.sim tk 2 [(0, yv l), (1, vp 3 0), (3, vi .i64 x_7), (4, vi .u64 0), (20, vs 5), (21, vi .i64 (len l_12)), (22, vi .i64 0)] [] [] [] (by kernel_rfl) ?_
         refine SL.nilThen ?_
         refine SC.block ?_
         obtain ⟨o2, hi2, ho2⟩ := bind_inv hp
         clear hp
         refine SC.loop (fun n a w => ∃ (x_13 : Int) (x_14 : Int), iter (fun s => mac_Tag_it_l2 F l_12 s.1 s.2) n (x_13, x_14) = some o2 ∧ A 39 5 fx [(0, yv l), (1, vp 3 0), (3, vi .i64 x_7), (4, vi .u64 x_13), (20, vs 5), (21, vi .i64 (len l_12)), (22, vi .i64 x_14)] [.gone, .blk 25 [ci .u64 k_1], .blk 22 [ci .u64 x_6], .blk 31 [.s 4], .rd 1 R8 b_2, .rd 1 R8 l_12] a w) F (fun a w h => ⟨0, 0, hi2, h.at (js := [.g 0, .g 1, .g 2, .g 3, .g 4, .g 5]) (by kernel_rfl)⟩) ?_
         rintro n2 a w ⟨x_13, x_14, hi2, h⟩
         obtain ⟨n2, q2, rfl, hp, hs2⟩ := iter_inv hi2
         replace hp : mac_Tag_it_l2 F l_12 x_13 x_14 = some q2 := hp
         clear hi2
         refine h.go ?_
         refine SC.r tk [(0, yv l), (1, vp 3 0), (3, vi .i64 x_7), (4, vi .u64 x_13), (20, vs 5), (21, vi .i64 (len l_12)), (22, vi .i64 x_14), (23, vb (decide (x_14 < (len l_12))))] [] [] [] (by kernel_rfl) ?_
         refine SC.seq ?_
         refine SC.if' rfl hp (fun hp => ?_) (fun hp => ?_)
         · refine SC.skipThen ?_
           refine SC.seq ?_
           refine SC.block ?_
           obtain ⟨x_15, e_x_15, hp⟩ := bind_inv hp
           refine SC.pre (pre_ix (i := 5) (iv := x_14) (sz := 1) (R := R8) (l := l_12) (by kernel_rfl) rfl e_x_15) ?_
           refine SC.r tk [(0, yv l), (1, vp 3 0), (3, vi .i64 x_7), (4, vi .u64 x_13), (5, vi .i64 x_14), (6, vi .u8 x_15), (20, vs 5), (21, vi .i64 (len l_12)), (22, vi .i64 x_14)] [] [.el 6] [x_14] (by kernel_rfl) ?_
           refine SC.reg ?_
           obtain ⟨x_16, e_x_16, hp⟩ := bind_inv hp
           refine SL.sim tk 8 [(0, yv l), (1, vp 3 0), (3, vi .i64 x_7), (4, vi .u64 (ior .u64 x_13 x_16)), (20, vs 5), (21, vi .i64 (len l_12)), (22, vi .i64 x_14)] [] [.bin .shl .u64 (wu64 x_15) (w64 (8 * x_14)) x_16 e_x_16] [wu64 x_15, w64 (8 * x_14)] (by kernel_rfl) ?_
           refine SL.nilThen ?_
           refine SC.reg ?_
           refine SL.sim tk 2 [(0, yv l), (1, vp 3 0), (3, vi .i64 x_7), (4, vi .u64 (ior .u64 x_13 x_16)), (20, vs 5), (21, vi .i64 (len l_12)), (22, vi .i64 (w64 (x_14 + 1)))] [] [] [] (by kernel_rfl) ?_
           refine SL.nilJ fun a w h => ?_
           exact ⟨n2, Nat.lt_succ_self _, ior .u64 x_13 x_16, w64 (x_14 + 1), next_inv hp hs2, h.at (js := [.g 0, .g 1, .g 2, .g 3, .g 4, .g 5]) (by kernel_rfl)⟩
         · refine SC.exitJ rfl fun a w h => ?_
           have ho := done_inv hp hs2
           replace hp := ho2
           try rw [ho] at hp
           exact ⟨x_13, hp, h.at (js := [.g 0, .g 1, .g 2, .g 3, .g 4]) (by kernel_rfl)⟩
       · rintro a w ⟨x_9, hp, h⟩
         refine h.go ?_
         obtain ⟨o_10, e_o_10, hp⟩ := bind_inv hp
         refine SC.cut (fun a w => A 39 5 fx [(0, yv l), (1, vp 3 0), (3, vi .i64 x_7), (38, vb false)] [.gone, .blk 25 [ci .u64 k_1], .blk 22 [ci .u64 o_10], .blk 31 [.s 4], .rd 1 R8 b_2] a w) ?_ (fun a w h => h.go ?_)
         · refine SC.regI ?_
           refine SLI.cutAt 2 (fun a w => A 39 5 fx [(0, yv l), (1, vp 3 0), (3, vi .i64 x_7), (35, yv l), (36, vi .u64 x_9)] [.gone, .blk 25 [ci .u64 k_1], .blk 22 [ci .u64 x_6], .blk 31 [.s 4], .rd 1 R8 b_2] a w) ?_ rfl (fun a w h => h.goLI ?_)
           · refine SL.sim tk 2 [(0, yv l), (1, vp 3 0), (3, vi .i64 x_7), (35, yv l), (36, vi .u64 x_9)] [] [] [] (by kernel_rfl) ?_
             refine SL.nilJ fun a w h => ?_
             exact h.at (js := [.g 0, .g 1, .g 2, .g 3, .g 4]) (by kernel_rfl)
           · refine SLI.yield (X := Unit) (Pr := fun _ => True) (itsX := fun _ => [.gone, .blk 25 [ci .u64 k_1], .blk 22 [ci .u64 o_10], .blk 31 [.s 4], .rd 1 R8 b_2]) (pl := [14]) (vs := [vi .u64 x_9]) (envA := [(0, yv l), (1, vp 3 0), (3, vi .i64 x_7)]) (envS := [(2, vp 1 0), (5, vp 2 0)]) (envB := [(2, vp 1 0), (5, vp 2 0), (6, vi .u64 x_9)]) hu hx hw hst hpe hpl (by simpa using hS.sub (lkEs_sub (e := [(2, vp 1 0), (5, vp 2 0)]) rfl)) rfl rfl rfl (by kernel_rfl) rfl rfl ?_ ?_ (fun _ => rfl) (fun _ => rfl) (fun _ _ => SLI.of ?_ rfl)
             · rw [has]
               refine SCI.reg ?_ rfl
               refine SL.sim tk 1 [(2, vp 1 0), (5, vp 2 0), (6, vi .u64 x_9)] [] [] [] (by kernel_rfl) ?_
               refine SL.nilJ fun a w h => ?_
               exact h.at (js := [.g 0, .g 1, .g 2, .g 3, .g 4]) (by kernel_rfl)
             · generalize (fx.put l (.loop { rec with state := .busy }) hu) = fx
               rw [hbo]
               have hp := e_o_10
               refine SCI.block ?_
               obtain ⟨x_11, e_x_11, hp⟩ := bind_inv hp
               refine SCI.reg ?_ rfl
               refine SL.sim tk 4 [(5, vp 2 0), (15, vi .u64 k_1), (18, vi .u64 (ixor .u64 x_6 x_9))] [] [] [] (by kernel_rfl) ?_
               refine SL.eff (e_c Tryd.call114 (ok_block_Mix F k_1 (ixor .u64 x_6 x_9) _ e_x_11) [] [vi .u64 k_1, vi .u64 (ixor .u64 x_6 x_9)] (vi .u64 x_11) (by kernel_rfl) (.inl rfl)) rfl (by kernel_rfl) ?_
               refine SL.sim tk 1 [] [(2, 22, [ci .u64 x_11])] [] [] (by kernel_rfl) ?_
               refine SL.nilJ fun a w h => ?_
               obtain rfl := some_inv' hp
               obtain ⟨κ, _, S⟩ := (show A 21 5 fx [] [.gone, .blk 25 [ci .u64 k_1], .blk 22 [ci .u64 x_11], .blk 31 [.s 4], .rd 1 R8 b_2] a w from h.at (js := [.g 0, .g 1, .g 2, .g 3, .g 4]) (by kernel_rfl))
               exact ⟨(), trivial, κ, S⟩
             · refine SL.sim tk 1 [(0, yv l), (1, vp 3 0), (3, vi .i64 x_7), (38, vb false)] [] [] [] (by kernel_rfl) ?_
               refine SL.nilJ fun a w h => ?_
               exact h.at (js := [.g 0, .g 1, .g 2, .g 3, .g 4]) (by kernel_rfl)
         · refine SC.iff rfl ?_
           refine SC.skipJ fun a w h => ?_
           exact ⟨o_10, hp, h.at (js := [.g 0, .g 1, .g 2, .g 3, .g 4]) (by kernel_rfl)⟩
     · rintro a w ⟨x_8, hp, h⟩
       refine h.go ?_
       refine SC.reg ?_
       refine SL.sim tk 3 [(0, yv l), (1, vp 3 0), (3, vi .i64 (w64 (x_7 + 8)))] [] [] [] (by kernel_rfl) ?_
       refine SL.nilJ fun a w h => ?_
       exact ⟨n1, Nat.lt_succ_self _, x_8, w64 (x_7 + 8), next_inv hp hs1, h.at (js := [.g 0, .g 1, .g 2, .g 3, .g 4]) (by kernel_rfl)⟩
   · refine SC.exitJ rfl fun a w h => ?_
     have ho := done_inv hp hs1
     replace hp := ho1
     try rw [ho] at hp
     obtain rfl := some_inv' hp
     exact A.re (js := [.g 0, .g 1, .g 2, .g 3, .g 4]) tk h (by kernel_rfl)
 · refine SL.sim tk 2 [(4, vi .u64 o_4)] [] [] [] (by kernel_rfl) ?_
   refine SL.nilJ fun a w h => ?_
   exact h.at (js := [.g 0, .g 1, .g 2, .g 3, .g 4]) (by kernel_rfl)
 · obtain rfl := some_inv' hp
   exact A.re (js := [.g 0]) tk h (by kernel_rfl)

theorem ok_mac_Derive (F : Nat) (k_1 : Int) (label_2 : List Int) (parts_3 : (List Int)) (r : Int) (hp : mac_Derive F k_1 label_2 parts_3 = some r) : Spec Tryd.prog 102 [vi .u64 k_1, vt 0, vs 1] [.str label_2, .rd 1 (RInt .u64) parts_3] (vi .u64 r) [.gone, .gone] := by
 refine Spec.enter Tryd.func102 rfl Tryd.ntmps102 rfl rfl fun fx => ?_
 refine SC.r tk [(0, vi .u64 k_1), (1, vt 0), (2, vs 1)] [] [] [] (by kernel_rfl) ?_
 refine SC.seq ?_
 refine SC.reg ?_
 refine SL.sim tk 2 [(2, vs 1), (7, vi .u64 k_1), (8, vt 0)] [] [] [] (by kernel_rfl) ?_
 obtain ⟨l_4, e_l_4, hp⟩ := bind_inv hp
 refine SL.eff (e_s2b (E := 5) tk rfl (.t rfl) e_l_4 (by kernel_rfl)) rfl (by kernel_rfl) ?_
 refine SL.eff (e_lit (sz := 1) (E := 5) (R := R8) (by_ := 1) tk [[ci .u8 0]] [0] (by kernel_rfl) ⟨Clo.int, trivial⟩ rfl (by kernel_rfl) (by kernel_rfl)) rfl (by kernel_rfl) ?_
 refine SL.sim tk 1 [(7, vi .u64 k_1), (9, vs 2), (10, vs 3), (11, vs 1)] [] [] [] (by kernel_rfl) ?_
 obtain ⟨x_5, e_x_5, hp⟩ := bind_inv hp
 refine SL.eff (e_c Tryd.call109 (ok_mac_bytes F parts_3 _ e_x_5) [.g 1] [vs 1] (vs 4) (by kernel_rfl) (.inl rfl)) rfl (by kernel_rfl) ?_
 refine SL.norm (itsN := [.str label_2, .rd 1 (RInt .u64) parts_3, .own 1 5 R8 l_4, .own 1 5 R8 [0], .rd 1 R8 x_5]) (by kernel_rfl) ?_
 refine SL.pre (pre_frz (i := 3) (sz := 1) (E := 5) (R := R8) (l := [0]) (by kernel_rfl)) ?_
 refine SL.pre (pre_frz (i := 2) (sz := 1) (E := 5) (R := R8) (l := l_4) (by kernel_rfl)) ?_
 refine SL.eff (e_lit (sz := 1) (E := 31) (R := (RSl 1 R8)) (by_ := 24) tk [[.s 2], [.s 3], [.s 4]] [l_4, [0], x_5] (by kernel_rfl) ⟨(Clo.sl (by kernel_rfl)), ⟨(Clo.sl (by kernel_rfl)), ⟨(Clo.sl (by kernel_rfl)), trivial⟩⟩⟩ rfl (by kernel_rfl) (by kernel_rfl)) rfl (by kernel_rfl) ?_
 obtain ⟨x_6, e_x_6, hp⟩ := bind_inv hp
 refine SL.pre (pre_frz (i := 5) (sz := 1) (E := 31) (R := (RSl 1 R8)) (l := [l_4, [0], x_5]) (by kernel_rfl)) ?_
 refine SL.eff (e_c Tryd.call41 (ok_octets_Join F [l_4, [0], x_5] _ e_x_6) [.g 5] [vs 5] (vs 6) (by kernel_rfl) (.inl rfl)) rfl (by kernel_rfl) ?_
 obtain ⟨x_7, e_x_7, hp⟩ := bind_inv hp
 refine SL.eff (e_c Tryd.call108 (ok_mac_Tag F k_1 x_6 _ e_x_7) [.g 6] [vi .u64 k_1, vs 6] (vi .u64 x_7) (by kernel_rfl) (.inl rfl)) rfl (by kernel_rfl) ?_
 refine SL.norm (itsN := [.str label_2, .rd 1 (RInt .u64) parts_3, .rd 1 R8 l_4, .rd 1 R8 [0], .rd 1 R8 x_5, .rd 1 (RSl 1 R8) [l_4, [0], x_5], .rd 1 R8 x_6]) (by kernel_rfl) ?_
 refine SL.sim tk 1 [(6, vi .u64 x_7)] [] [] [] (by kernel_rfl) ?_
 refine SL.nilThen ?_
 obtain rfl := some_inv' hp
 exact SC.re (js := [.g 0, .g 1]) tk (by kernel_rfl)

theorem ok_privacy_hash (F : Nat) (irk_1 : Int) (prand_2 : Int) (r : Int) (hp : privacy_hash F irk_1 prand_2 = some r) : Spec Tryd.prog 92 [vi .u64 irk_1, vi .u64 prand_2] [] (vi .u64 r) [] := by
 refine Spec.enter Tryd.func92 rfl Tryd.ntmps92 rfl rfl fun fx => ?_
 refine SC.r tk [(0, vi .u64 irk_1), (1, vi .u64 prand_2)] [] [] [] (by kernel_rfl) ?_
 refine SC.seq ?_
 refine SC.reg ?_
 refine SL.sim tk 2 [(5, vi .u64 irk_1), (6, vi .u64 prand_2)] [] [] [] (by kernel_rfl) ?_
 refine SL.eff (e_lit (sz := 1) (E := 22) (R := (RInt .u64)) (by_ := 8) tk [[ci .u64 prand_2]] [prand_2] (by kernel_rfl) ⟨Clo.int, trivial⟩ rfl (by kernel_rfl) (by kernel_rfl)) rfl (by kernel_rfl) ?_
 obtain ⟨x_3, e_x_3, hp⟩ := bind_inv hp
 refine SL.eff (e_c Tryd.call102 (ok_mac_Derive F irk_1 [114, 112, 97] [prand_2] _ e_x_3) [.k ⟨#[114, 112, 97]⟩, .l 0] [vi .u64 irk_1, .c (.v (.string ⟨#[114, 112, 97]⟩)), vs 0] (vi .u64 x_3) (by kernel_rfl) (.inr ⟨trivial, trivial, trivial⟩)) rfl (by kernel_rfl) ?_
 refine SL.sim tk 2 [(4, vi .u64 (iand .u64 x_3 16777215))] [] [] [] (by kernel_rfl) ?_
 refine SL.nilThen ?_
 obtain rfl := some_inv' hp
 exact SC.re (js := []) tk (by kernel_rfl)

theorem ok_privacy_Resolves (F : Nat) (irk_1 : Int) (a_2 : T_api_Address) (r : Bool) (hp : privacy_Resolves F irk_1 a_2 = some r) : Spec Tryd.prog 78 [vi .u64 irk_1, .g (C_api_Address a_2)] [] (vb r) [] := by
 refine Spec.enter Tryd.func78 rfl Tryd.ntmps78 rfl rfl fun fx => ?_
 refine SC.seq ?_
 refine SC.reg ?_
 refine SL.eff (e_box (E := 24) (C_api_Address a_2) (by kernel_rfl)) rfl (by kernel_rfl) ?_
 refine SL.sim tk 1 [(0, vi .u64 irk_1), (3, vp 0 0)] [] [] [] (by kernel_rfl) ?_
 refine SL.nilThen ?_
 refine SC.seq ?_
 refine SC.seq ?_
 refine SC.reg ?_
 refine SL.sim tk 8 [(0, vi .u64 irk_1), (3, vp 0 0), (13, vb ((irk_1 == 0) || (a_2.Kind != 3)))] [] [] [] (by kernel_rfl) ?_
 obtain ⟨z_4, hz, hpr⟩ := bind_inv hp
 clear hp
 refine SL.cutAt 4 (fun a w => A 29 0 fx [(0, vi .u64 irk_1), (3, vp 0 0), (17, vb z_4)] [.blk 24 (C_api_Address a_2)] a w) ?_ ?_
 · have hp := hz
   rcases Bool.eq_false_or_eq_true (((irk_1 == 0) || (a_2.Kind != 3))) with hg_3 | hg_3
   · replace hp := if_t hp hg_3
     refine SL.no rfl rfl hg_3 rfl ?_
     refine SL.no rfl rfl hg_3 rfl ?_
     refine SL.no rfl rfl hg_3 rfl ?_
     refine SL.pickt rfl hg_3 rfl rfl ?_
     refine SL.nilJ fun a w h => ?_
     obtain rfl := some_inv' hp
     exact h.at (js := [.g 0]) (by kernel_rfl)
   · replace hp := if_f hp hg_3
     refine SL.yes rfl rfl hg_3 ?_
     refine SL.sim tk 1 [(0, vi .u64 irk_1), (3, vp 0 0), (13, vb ((irk_1 == 0) || (a_2.Kind != 3))), (14, .g (C_api_Address a_2))] [] [] [] (by kernel_rfl) ?_
     refine SL.yes rfl rfl hg_3 ?_
     obtain ⟨x_10, e_x_10, hp⟩ := bind_inv hp
     refine SL.eff (e_c Tryd.call48 (ok_address_Check F a_2 _ e_x_10) [] [.g (C_api_Address a_2)] (vi .i64 x_10) (by kernel_rfl) (.inl rfl)) rfl (by kernel_rfl) ?_
     refine SL.yes rfl rfl hg_3 ?_
     refine SL.sim tk 1 [(0, vi .u64 irk_1), (3, vp 0 0), (13, vb ((irk_1 == 0) || (a_2.Kind != 3))), (16, vb (x_10 != 0))] [] [] [] (by kernel_rfl) ?_
     refine SL.pickf rfl hg_3 rfl rfl ?_
     refine SL.nilJ fun a w h => ?_
     obtain rfl := some_inv' hp
     exact h.at (js := [.g 0]) (by kernel_rfl)
 · intro a w h
   have hp := hpr; clear hpr hz
   refine h.goL ?_
   refine SL.nilThen ?_
   refine SC.if' rfl hp (fun hp => ?_) (fun hp => ?_)
   · refine SC.r tk [(4, vb false)] [] [] [] (by kernel_rfl) ?_
     obtain rfl := some_inv' hp
     exact SC.re (js := []) tk (by kernel_rfl)
   · refine SC.skipThen ?_
     refine SC.r tk [(0, vi .u64 irk_1), (3, vp 0 0), (5, vi .u64 (iand .u64 (shrp a_2.Bits 24) 4194303))] [] [.bin .shr .u64 a_2.Bits 24 (shrp a_2.Bits 24) (by kernel_rfl)] [a_2.Bits, 24] (by kernel_rfl) ?_
     refine SC.cut (fun a w => ∃ (z_5 : Bool), privacy_Resolves_j1 F z_5 = some r ∧ A 29 0 fx [(4, vb z_5)] [] a w) ?_ ?_
     · refine SC.draw MO [true] (by kernel_rfl) fun kap_6 D_7 => ?_
       refine SD.takes tk D_7 [] kn0 [0, 1, 2, 3, 4] [] [] [I, I, I, I, I, O, O, O] [(24, vi .u64 (iand .u64 a_2.Bits 16777215)), (25, vi .u64 irk_1), (26, vi .u64 (iand .u64 (shrp a_2.Bits 24) 4194303))] rfl (by kernel_rfl) (by kernel_rfl) (by kernel_rfl) ?_
       obtain ⟨x_8, e_x_8, hp⟩ := bind_inv hp
       refine SD.all1 (i := 5) (by kernel_rfl) ?_
       refine SW.eff D_7 (i := 5) (bs' := [I, I, I, I, I, I, O, O]) rfl (.inl rfl) rfl (e_c Tryd.call92 (ok_privacy_hash F irk_1 (iand .u64 (shrp a_2.Bits 24) 4194303) _ e_x_8) [] [vi .u64 irk_1, vi .u64 (iand .u64 (shrp a_2.Bits 24) 4194303)] (vi .u64 x_8) (by kernel_rfl) (.inl rfl)) (by kernel_rfl) rfl (by kernel_rfl) ?_
       refine SD.takes tk D_7 [] kn0 [6, 7] [] [] [I, I, I, I, I, I, I, I] [(4, vb ((iand .u64 a_2.Bits 16777215) == x_8))] rfl (by kernel_rfl) (by kernel_rfl) (by kernel_rfl) ?_
       refine SD.done (by kernel_rfl) fun a w h => ?_
       exact ⟨((iand .u64 a_2.Bits 16777215) == x_8), hp, h.at (js := []) (by kernel_rfl)⟩
     · rintro a w ⟨z_5, hp, h⟩
       refine h.go ?_
       obtain rfl := some_inv' hp
       exact SC.re (js := []) tk (by kernel_rfl)

theorem ok_privacy_Find_1 (F : Nat) (id_1 : T_api_Identity) (p_2 : T_api_Address) (r : Bool × T_api_Address) (hp : privacy_Find_1 F id_1 p_2 = some r) : Spec Tryd.prog 77 [.g (C_api_Identity id_1), vp 0 0] [.blk 24 (C_api_Address p_2)] (vb r.1) [.blk 24 [ci .i64 r.2.Kind, ci .u64 r.2.Bits]] := by
 refine Spec.enter Tryd.func77 rfl Tryd.ntmps77 rfl rfl fun fx => ?_
 refine SC.seq ?_
 refine SC.reg ?_
 refine SL.eff (e_box (E := 27) (C_api_Identity id_1) (by kernel_rfl)) rfl (by kernel_rfl) ?_
 refine SL.sim tk 1 [(1, vp 0 0), (2, vp 1 0)] [] [] [] (by kernel_rfl) ?_
 refine SL.nilThen ?_
 refine SC.seq ?_
 refine SC.reg ?_
 refine SL.sim tk 3 [(1, vp 0 0), (2, vp 1 0), (5, .g (C_api_Address id_1.Address)), (6, .g (C_api_Address p_2))] [] [] [] (by kernel_rfl) ?_
 refine SL.eff (e_eqs tk (cs := (C_api_Address id_1.Address)) (ds := (C_api_Address p_2)) [(id_1.Address.Kind == p_2.Kind), (id_1.Address.Bits == p_2.Bits)] ((id_1.Address.Kind == p_2.Kind) && (id_1.Address.Bits == p_2.Bits)) rfl rfl (by kernel_rfl) (by kernel_rfl) (by kernel_rfl) (.inl ⟨rfl, (by kernel_rfl)⟩)) rfl (by kernel_rfl) ?_
 refine SL.sim tk 1 [(1, vp 0 0), (2, vp 1 0), (8, vb ((id_1.Address.Kind == p_2.Kind) && (id_1.Address.Bits == p_2.Bits)))] [] [] [] (by kernel_rfl) ?_
 obtain ⟨z_4, hz, hpr⟩ := bind_inv hp
 clear hp
 refine SL.cutAt 5 (fun a w => A 14 1 fx [(13, vb z_4)] [.blk 24 (C_api_Address p_2)] a w) ?_ ?_
 · have hp := hz
   rcases Bool.eq_false_or_eq_true (((id_1.Address.Kind == p_2.Kind) && (id_1.Address.Bits == p_2.Bits))) with hg_3 | hg_3
   · replace hp := if_t hp hg_3
     refine SL.no rfl rfl hg_3 rfl ?_
     refine SL.no rfl rfl hg_3 rfl ?_
     refine SL.no rfl rfl hg_3 rfl ?_
     refine SL.no rfl rfl hg_3 rfl ?_
     refine SL.pickt rfl hg_3 rfl rfl ?_
     refine SL.nilJ fun a w h => ?_
     obtain rfl := some_inv' hp
     exact h.at (js := [.g 0]) (by kernel_rfl)
   · replace hp := if_f hp hg_3
     refine SL.yes rfl rfl hg_3 ?_
     refine SL.sim tk 1 [(1, vp 0 0), (8, vb ((id_1.Address.Kind == p_2.Kind) && (id_1.Address.Bits == p_2.Bits))), (9, vp 1 2)] [] [] [] (by kernel_rfl) ?_
     refine SL.yes rfl rfl hg_3 ?_
     refine SL.sim tk 1 [(1, vp 0 0), (8, vb ((id_1.Address.Kind == p_2.Kind) && (id_1.Address.Bits == p_2.Bits))), (10, vi .u64 id_1.IRK)] [] [] [] (by kernel_rfl) ?_
     refine SL.yes rfl rfl hg_3 ?_
     refine SL.sim tk 1 [(8, vb ((id_1.Address.Kind == p_2.Kind) && (id_1.Address.Bits == p_2.Bits))), (10, vi .u64 id_1.IRK), (11, .g (C_api_Address p_2))] [] [] [] (by kernel_rfl) ?_
     refine SL.yes rfl rfl hg_3 ?_
     obtain ⟨x_6, e_x_6, hp⟩ := bind_inv hp
     refine SL.eff (e_c Tryd.call78 (ok_privacy_Resolves F id_1.IRK p_2 _ e_x_6) [] [vi .u64 id_1.IRK, .g (C_api_Address p_2)] (vb x_6) (by kernel_rfl) (.inl rfl)) rfl (by kernel_rfl) ?_
     refine SL.norm (itsN := [.blk 24 (C_api_Address p_2), .blk 27 (C_api_Identity id_1)]) (by kernel_rfl) ?_
     refine SL.pickf rfl hg_3 rfl rfl ?_
     refine SL.nilJ fun a w h => ?_
     obtain rfl := some_inv' hp
     exact h.at (js := [.g 0]) (by kernel_rfl)
 · intro a w h
   have hp := hpr; clear hpr hz
   refine h.goL ?_
   refine SL.sim tk 1 [(3, vb z_4)] [] [] [] (by kernel_rfl) ?_
   refine SL.nilThen ?_
   obtain rfl := some_inv' hp
   exact SC.re (js := [.g 0]) tk (by kernel_rfl)

theorem ok_slices_IndexFunc_api_Identity_api_Identity_at77 (F : Nat) (s_1 : (List T_api_Identity)) (c_2 : T_api_Address) (r : Int × T_api_Address) (hp : slices_IndexFunc_api_Identity_api_Identity_at77 F s_1 c_2 = some r) : Spec Tryd.prog 76 [vs 0, .f 77 [.p 1 0]] [.rd 3 R_T_api_Identity s_1, .blk 24 (C_api_Address c_2)] (vi .i64 r.1) [.gone, .blk 24 [ci .i64 r.2.Kind, ci .u64 r.2.Bits]] := by
 refine Spec.enter Tryd.func76 rfl Tryd.ntmps76 rfl rfl fun fx => ?_
 refine SC.r tk [(0, vs 0), (1, .f 77 [.p 1 0])] [] [] [] (by kernel_rfl) ?_
 refine SC.cut (fun a w => ∃ (c_5 : T_api_Address), slices_IndexFunc_api_Identity_api_Identity_at77_j1 F c_5 = some r ∧ A 19 2 fx [] [.gone, .blk 24 (C_api_Address c_5)] a w) ?_ ?_
 · refine SC.r tk [(0, vs 0), (1, .f 77 [.p 1 0]), (7, vi .i64 (len s_1)), (8, vi .i64 0)] [] [] [] (by kernel_rfl) ?_
   refine SC.block ?_
   obtain ⟨o1, hi1, ho1⟩ := bind_inv hp
   clear hp
   refine SC.loop (fun n a w => ∃ (c_8 : T_api_Address) (x_9 : Int), iter (fun s => slices_IndexFunc_api_Identity_api_Identity_at77_l1 F s_1 s.1 s.2) n (c_8, x_9) = some o1 ∧ A 19 2 fx [(0, vs 0), (1, .f 77 [.p 1 0]), (7, vi .i64 (len s_1)), (8, vi .i64 x_9)] [.rd 3 R_T_api_Identity s_1, .blk 24 (C_api_Address c_8)] a w) F (fun a w h => ⟨c_2, 0, hi1, h.at (js := [.g 0, .g 1]) (by kernel_rfl)⟩) ?_
   rintro n1 a w ⟨c_8, x_9, hi1, h⟩
   obtain ⟨n1, q1, rfl, hp, hs1⟩ := iter_inv hi1
   replace hp : slices_IndexFunc_api_Identity_api_Identity_at77_l1 F s_1 c_8 x_9 = some q1 := hp
   clear hi1
   refine h.go ?_
   refine SC.r tk [(0, vs 0), (1, .f 77 [.p 1 0]), (7, vi .i64 (len s_1)), (8, vi .i64 x_9), (9, vb (decide (x_9 < (len s_1))))] [] [] [] (by kernel_rfl) ?_
   refine SC.seq ?_
   refine SC.if' rfl hp (fun hp => ?_) (fun hp => ?_)
   · refine SC.skipThen ?_
     refine SC.seq ?_
     refine SC.block ?_
     refine SC.r tk [(0, vs 0), (1, .f 77 [.p 1 0]), (5, vi .i64 x_9), (7, vi .i64 (len s_1)), (8, vi .i64 x_9)] [] [] [] (by kernel_rfl) ?_
     refine SC.seq ?_
     refine SC.reg ?_
     obtain ⟨x_10, e_x_10, hp⟩ := bind_inv hp
     refine SL.pre (pre_ix (i := 0) (iv := x_9) (sz := 3) (R := R_T_api_Identity) (l := s_1) (by kernel_rfl) rfl e_x_10) ?_
     refine SL.sim tk 5 [(0, vs 0), (1, .f 77 [.p 1 0]), (5, vi .i64 x_9), (7, vi .i64 (len s_1)), (8, vi .i64 x_9), (11, .f 77 [.p 1 0]), (15, .g (C_api_Identity x_10))] [] [.el 2] [x_9] (by kernel_rfl) ?_
     obtain ⟨x_11, e_x_11, hp⟩ := bind_inv hp
     refine SL.eff (e_c Tryd.call77 (ok_privacy_Find_1 F x_10 c_8 _ e_x_11) [.g 1] [.g (C_api_Identity x_10), vp 1 0] (vb x_11.1) (by kernel_rfl) (.inl rfl)) rfl (by kernel_rfl) ?_
     refine SL.nilThen ?_
     refine SC.if' rfl hp (fun hp => ?_) (fun hp => ?_)
     · refine SC.r tk [(4, vi .i64 x_9)] [] [] [] (by kernel_rfl) ?_
       have ho := done_inv hp hs1
       replace hp := ho1
       try rw [ho] at hp
       obtain rfl := some_inv' hp
       exact SC.re (js := [.g 0, .g 1]) tk (by kernel_rfl)
     · refine SC.skipThen ?_
       refine SC.reg ?_
       refine SL.sim tk 2 [(0, vs 0), (1, .f 77 [.p 1 0]), (7, vi .i64 (len s_1)), (8, vi .i64 (w64 (x_9 + 1)))] [] [] [] (by kernel_rfl) ?_
       refine SL.nilJ fun a w h => ?_
       exact ⟨n1, Nat.lt_succ_self _, x_11.2, w64 (x_9 + 1), next_inv hp hs1, h.at (js := [.g 0, .g 1]) (by kernel_rfl)⟩
   · refine SC.exitJ rfl fun a w h => ?_
     have ho := done_inv hp hs1
     replace hp := ho1
     try rw [ho] at hp
     exact ⟨c_8, hp, h.at (js := [.g 0, .g 1]) (by kernel_rfl)⟩
 · rintro a w ⟨c_5, hp, h⟩
   refine h.go ?_
   refine SC.r tk [(4, vi .i64 (-1))] [] [] [] (by kernel_rfl) ?_
   obtain rfl := some_inv' hp
   exact SC.re (js := [.g 0, .g 1]) tk (by kernel_rfl)

theorem ok_privacy_Find (F : Nat) (list_1 : (List T_api_Identity)) (a_2 : T_api_Address) (r : Int) (hp : privacy_Find F list_1 a_2 = some r) : Spec Tryd.prog 57 [vs 0, .g (C_api_Address a_2)] [.rd 3 R_T_api_Identity list_1] (vi .i64 r) [.gone] := by
 refine Spec.enter Tryd.func57 rfl Tryd.ntmps57 rfl rfl fun fx => ?_
 refine SC.seq ?_
 refine SC.reg ?_
 refine SL.eff (e_box (E := 24) (C_api_Address a_2) (by kernel_rfl)) rfl (by kernel_rfl) ?_
 refine SL.sim tk 1 [(0, vs 0), (3, vp 1 0)] [] [] [] (by kernel_rfl) ?_
 refine SL.nilThen ?_
 refine SC.seq ?_
 refine SC.seq ?_
 refine SC.reg ?_
 refine SL.sim tk 1 [(0, vs 0), (3, vp 1 0), (5, .g (C_api_Address a_2))] [] [] [] (by kernel_rfl) ?_
 obtain ⟨x_3, e_x_3, hp⟩ := bind_inv hp
 refine SL.eff (e_c Tryd.call48 (ok_address_Check F a_2 _ e_x_3) [] [.g (C_api_Address a_2)] (vi .i64 x_3) (by kernel_rfl) (.inl rfl)) rfl (by kernel_rfl) ?_
 refine SL.sim tk 1 [(0, vs 0), (3, vp 1 0), (7, vb (x_3 != 0))] [] [] [] (by kernel_rfl) ?_
 refine SL.nilThen ?_
 refine SC.if' rfl hp (fun hp => ?_) (fun hp => ?_)
 · refine SC.r tk [(4, vi .i64 (-1))] [] [] [] (by kernel_rfl) ?_
   obtain rfl := some_inv' hp
   exact SC.re (js := [.g 0]) tk (by kernel_rfl)
 · refine SC.skipThen ?_
   refine SC.seq ?_
   refine SC.reg ?_
   refine SL.sim tk 2 [(8, vs 0), (9, .f 77 [.p 1 0])] [] [] [] (by kernel_rfl) ?_
   obtain ⟨x_4, e_x_4, hp⟩ := bind_inv hp
   refine SL.eff (e_c Tryd.call76 (ok_slices_IndexFunc_api_Identity_api_Identity_at77 F list_1 a_2 _ e_x_4) [.g 0, .g 1] [vs 0, .f 77 [.p 1 0]] (vi .i64 x_4.1) (by kernel_rfl) (.inl rfl)) rfl (by kernel_rfl) ?_
   refine SL.norm (itsN := [.rd 3 R_T_api_Identity list_1, .blk 24 (C_api_Address x_4.2)]) (by kernel_rfl) ?_
   refine SL.sim tk 1 [(4, vi .i64 x_4.1)] [] [] [] (by kernel_rfl) ?_
   refine SL.nilThen ?_
   obtain rfl := some_inv' hp
   exact SC.re (js := [.g 0]) tk (by kernel_rfl)

theorem ok_bonds_Find (F : Nat) (l_1 : (List T_api_Bond)) (a_2 : T_api_Address) (r : Int) (hp : bonds_Find F l_1 a_2 = some r) : Spec Tryd.prog 25 [vs 0, .g (C_api_Address a_2)] [.rd 10 R_T_api_Bond l_1] (vi .i64 r) [.gone] := by
 refine Spec.enter Tryd.func25 rfl Tryd.ntmps25 rfl rfl fun fx => ?_
 refine SC.seq ?_
 refine SC.reg ?_
 refine SL.eff (e_box (E := 24) (C_api_Address a_2) (by kernel_rfl)) rfl (by kernel_rfl) ?_
 refine SL.sim tk 1 [(0, vs 0), (3, vp 1 0)] [] [] [] (by kernel_rfl) ?_
 refine SL.nilThen ?_
 refine SC.r tk [(0, vs 0), (3, vp 1 0), (5, vn)] [] [] [] (by kernel_rfl) ?_
 refine SC.cut (fun a w => ∃ (l_3 : (List T_api_Identity)), bonds_Find_j1 F a_2 l_3 = some r ∧ A 23 1 fx [(3, vp 1 0), (5, vs 2)] [.gone, .blk 24 (C_api_Address a_2), .own 3 27 R_T_api_Identity l_3] a w) ?_ ?_
 · refine SC.r tk [(3, vp 1 0), (5, vn), (8, vs 0), (9, vi .i64 (len l_1)), (10, vi .i64 0)] [] [] [] (by kernel_rfl) ?_
   refine SC.block ?_
   obtain ⟨o1, hi1, ho1⟩ := bind_inv hp
   clear hp
   refine SC.loop (fun n a w => ∃ (l_5 : (List T_api_Identity)) (x_6 : Int), iter (fun s => bonds_Find_l1 F l_1 s.1 s.2) n (l_5, x_6) = some o1 ∧ A 23 1 fx [(3, vp 1 0), (5, vs 2), (8, vs 0), (9, vi .i64 (len l_1)), (10, vi .i64 x_6)] [.rd 10 R_T_api_Bond l_1, .blk 24 (C_api_Address a_2), .own 3 27 R_T_api_Identity l_5] a w) F (fun a w h => ⟨[], 0, hi1, h.at (js := [.g 0, .g 1, .n]) (by kernel_rfl)⟩) ?_
   rintro n1 a w ⟨l_5, x_6, hi1, h⟩
   obtain ⟨n1, q1, rfl, hp, hs1⟩ := iter_inv hi1
   replace hp : bonds_Find_l1 F l_1 l_5 x_6 = some q1 := hp
   clear hi1
   refine h.go ?_
   refine SC.r tk [(3, vp 1 0), (5, vs 2), (8, vs 0), (9, vi .i64 (len l_1)), (10, vi .i64 x_6), (11, vb (decide (x_6 < (len l_1))))] [] [] [] (by kernel_rfl) ?_
   refine SC.seq ?_
   refine SC.if' rfl hp (fun hp => ?_) (fun hp => ?_)
   · refine SC.skipThen ?_
     refine SC.seq ?_
     refine SC.block ?_
     refine SC.seq ?_
     refine SC.reg ?_
     obtain ⟨x_7, e_x_7, hp⟩ := bind_inv hp
     refine SL.pre (pre_ix (i := 0) (iv := x_6) (sz := 10) (R := R_T_api_Bond) (l := l_1) (by kernel_rfl) rfl e_x_7) ?_
     refine SL.sim tk 2 [(3, vp 1 0), (5, vs 2), (8, vs 0), (9, vi .i64 (len l_1)), (10, vi .i64 x_6), (13, .g (C_api_Bond x_7 (.s 4)))] [] [.el 3] [x_6] (by kernel_rfl) ?_
     refine SL.eff (e_alloc (E := 30) tk (C_api_Bond (T_api_Bond.mk (T_api_Identity.mk (T_api_Address.mk 0 0) 0) 0 0 false 0 false [] 0) nl) (by kernel_rfl)) rfl (by kernel_rfl) ?_
     refine SL.sim tk 1 [(3, vp 1 0), (5, vs 2), (7, vp 5 0), (8, vs 0), (9, vi .i64 (len l_1)), (10, vi .i64 x_6)] [(5, 30, (C_api_Bond x_7 (.s 4)))] [] [] (by kernel_rfl) ?_
     refine SL.nilThen ?_
     refine SC.reg ?_
     refine SL.sim tk 3 [(3, vp 1 0), (5, vs 2), (8, vs 0), (9, vi .i64 (len l_1)), (10, vi .i64 x_6), (14, vs 2), (16, .g (C_api_Identity x_7.Peer))] [] [] [] (by kernel_rfl) ?_
     refine SL.eff (e_lit (sz := 3) (E := 27) (R := R_T_api_Identity) (by_ := 24) tk [(C_api_Identity x_7.Peer)] [x_7.Peer] (by kernel_rfl) ⟨(clo_T_api_Identity (x := x_7.Peer)), trivial⟩ rfl (by kernel_rfl) (by kernel_rfl)) rfl (by kernel_rfl) ?_
     refine SL.norm (itsN := [.rd 10 R_T_api_Bond l_1, .blk 24 (C_api_Address a_2), .own 3 27 R_T_api_Identity l_5, .elt (some (0, x_6)) false (C_api_Bond x_7 (.s 4)), .rd 2 R_T_api_Subscription x_7.Subs, .blk 30 (C_api_Bond x_7 (.s 4)), .own 3 27 R_T_api_Identity [x_7.Peer]]) (by kernel_rfl) ?_
     obtain ⟨l_8, e_l_8, hp⟩ := bind_inv hp
     refine SL.eff (e_app (i := 2) (l := l_5) (sz := 3) (E := 27) (R := R_T_api_Identity) (by_ := 24) (m := [x_7.Peer]) tk rfl (by kernel_rfl) rfl (.o 27 (by kernel_rfl)) e_l_8 (by kernel_rfl)) rfl (by kernel_rfl) ?_
     refine SL.sim tk 1 [(3, vp 1 0), (5, vs 7), (8, vs 0), (9, vi .i64 (len l_1)), (10, vi .i64 x_6)] [] [] [] (by kernel_rfl) ?_
     refine SL.nilThen ?_
     refine SC.reg ?_
     refine SL.sim tk 2 [(3, vp 1 0), (5, vs 7), (8, vs 0), (9, vi .i64 (len l_1)), (10, vi .i64 (w64 (x_6 + 1)))] [] [] [] (by kernel_rfl) ?_
     refine SL.nilJ fun a w h => ?_
     exact ⟨n1, Nat.lt_succ_self _, l_8, w64 (x_6 + 1), next_inv hp hs1, h.at (js := [.g 0, .g 1, .g 7]) (by kernel_rfl)⟩
   · refine SC.exitJ rfl fun a w h => ?_
     have ho := done_inv hp hs1
     replace hp := ho1
     try rw [ho] at hp
     exact ⟨l_5, hp, h.at (js := [.g 0, .g 1, .g 2]) (by kernel_rfl)⟩
 · rintro a w ⟨l_3, hp, h⟩
   refine h.go ?_
   refine SC.seq ?_
   refine SC.reg ?_
   refine SL.sim tk 2 [(20, vs 2), (21, .g (C_api_Address a_2))] [] [] [] (by kernel_rfl) ?_
   obtain ⟨x_4, e_x_4, hp⟩ := bind_inv hp
   refine SL.eff (e_c Tryd.call57 (ok_privacy_Find F l_3 a_2 _ e_x_4) [.l 2] [vs 2, .g (C_api_Address a_2)] (vi .i64 x_4) (by kernel_rfl) (.inr ⟨trivial, trivial⟩)) rfl (by kernel_rfl) ?_
   refine SL.sim tk 1 [(4, vi .i64 x_4)] [] [] [] (by kernel_rfl) ?_
   refine SL.nilThen ?_
   obtain rfl := some_inv' hp
   exact SC.re (js := [.g 0]) tk (by kernel_rfl)

theorem ok_wirelesslaw40_lives (F : Nat) (r : Bool) (hp : wirelesslaw40_lives F = some r) : Spec Tryd.prog 8 [] [] (vb r) [] := by
 refine Spec.enter Tryd.func8 rfl Tryd.ntmps8 rfl rfl fun fx => ?_
 refine SC.r tk [] [] [] [] (by kernel_rfl) ?_
 refine SC.seq ?_
 refine SC.reg ?_
 obtain ⟨x_1, e_x_1, hp⟩ := bind_inv hp
 refine SL.eff (e_c Tryd.call36 (ok_wirelesslaw40_one F 3 _ e_x_1) [] [vi .u64 3] (.g (C_api_Bond x_1 (.s 0))) (by kernel_rfl) (.inl rfl)) rfl (by kernel_rfl) ?_
 obtain ⟨x_2, e_x_2, hp⟩ := bind_inv hp
 refine SL.eff (e_c Tryd.call10 (ok_bonds_Encode F x_1 _ e_x_2) [.g 0] [.g (C_api_Bond x_1 (.s 0))] (.u [.inl (.s 1), .inl (ci .i64 x_2.2)]) (by kernel_rfl) (.inl rfl)) rfl (by kernel_rfl) ?_
 refine SL.norm (itsN := [.rd 2 R_T_api_Subscription x_1.Subs, .rd 1 R8 x_2.1]) (by kernel_rfl) ?_
 refine SL.sim tk 5 [(1, vs 1), (2, vi .i64 x_2.2)] [] [] [] (by kernel_rfl) ?_
 refine SL.nilThen ?_
 refine SC.seq ?_
 refine SC.reg ?_
 refine SL.eff (e_lit (sz := 1) (E := 5) (R := R8) (by_ := 1) tk [] ([] : (List Int)) (by kernel_rfl) trivial rfl (by kernel_rfl) (by kernel_rfl)) rfl (by kernel_rfl) ?_
 refine SL.sim tk 1 [(1, vs 1), (2, vi .i64 x_2.2), (16, vs 2), (17, vs 1)] [] [] [] (by kernel_rfl) ?_
 obtain ⟨l_3, e_l_3, hp⟩ := bind_inv hp
 refine SL.eff (e_app (i := 2) (l := ([] : (List Int))) (sz := 1) (E := 5) (R := R8) (by_ := 1) (m := x_2.1) tk rfl (by kernel_rfl) rfl (.r (by kernel_rfl)) e_l_3 (by kernel_rfl)) rfl (by kernel_rfl) ?_
 obtain ⟨x_4, e_x_4, hp⟩ := bind_inv hp
 refine SL.pre (pre_frz (i := 3) (sz := 1) (E := 5) (R := R8) (l := l_3) (by kernel_rfl)) ?_
 refine SL.eff (e_c Tryd.call12 (ok_bonds_Decode F l_3 _ e_x_4) [.g 3] [vs 3] (.u [.inr (C_api_Bond x_4.1 (.s 4)), .inl (ci .i64 x_4.2)]) (by kernel_rfl) (.inl rfl)) rfl (by kernel_rfl) ?_
 refine SL.norm (itsN := [.rd 2 R_T_api_Subscription x_1.Subs, .rd 1 R8 x_2.1, .gone, .rd 1 R8 l_3, .rd 2 R_T_api_Subscription x_4.1.Subs]) (by kernel_rfl) ?_
 refine SL.sim tk 3 [(1, vs 1), (2, vi .i64 x_2.2), (20, .g (C_api_Bond x_4.1 (.s 4))), (21, vi .i64 x_4.2)] [] [] [] (by kernel_rfl) ?_
 refine SL.eff (e_alloc (E := 30) tk (C_api_Bond (T_api_Bond.mk (T_api_Identity.mk (T_api_Address.mk 0 0) 0) 0 0 false 0 false [] 0) nl) (by kernel_rfl)) rfl (by kernel_rfl) ?_
 refine SL.sim tk 2 [(1, vs 1), (2, vi .i64 x_2.2), (3, vp 5 0), (4, vi .i64 x_4.2)] [(5, 30, (C_api_Bond x_4.1 (.s 4)))] [] [] (by kernel_rfl) ?_
 refine SL.nilThen ?_
 refine SC.seq ?_
 refine SC.reg ?_
 obtain ⟨x_5, e_x_5, hp⟩ := bind_inv hp
 refine SL.eff (e_c Tryd.call36 (ok_wirelesslaw40_one F 3 _ e_x_5) [] [vi .u64 3] (.g (C_api_Bond x_5 (.s 6))) (by kernel_rfl) (.inl rfl)) rfl (by kernel_rfl) ?_
 refine SL.norm (itsN := [.rd 2 R_T_api_Subscription x_1.Subs, .rd 1 R8 x_2.1, .gone, .rd 1 R8 l_3, .rd 2 R_T_api_Subscription x_4.1.Subs, .blk 30 (C_api_Bond x_4.1 (.s 4)), .rd 2 R_T_api_Subscription x_5.Subs]) (by kernel_rfl) ?_
 obtain ⟨x_6, e_x_6, hp⟩ := bind_inv hp
 refine SL.eff (e_c Tryd.call36 (ok_wirelesslaw40_one F 7 _ e_x_6) [] [vi .u64 7] (.g (C_api_Bond x_6 (.s 7))) (by kernel_rfl) (.inl rfl)) rfl (by kernel_rfl) ?_
 refine SL.eff (e_lit (sz := 10) (E := 30) (R := R_T_api_Bond) (by_ := 96) tk [(C_api_Bond x_5 (.s 6)), (C_api_Bond x_6 (.s 7))] [x_5, x_6] (by kernel_rfl) ⟨(clo_T_api_Bond (x := x_5) (Clo.sl (by kernel_rfl))), ⟨(clo_T_api_Bond (x := x_6) (Clo.sl (by kernel_rfl))), trivial⟩⟩ rfl (by kernel_rfl) (by kernel_rfl)) rfl (by kernel_rfl) ?_
 obtain ⟨x_7, e_x_7, hp⟩ := bind_inv hp
 refine SL.eff (e_c Tryd.call36 (ok_wirelesslaw40_one F 5 _ e_x_7) [] [vi .u64 5] (.g (C_api_Bond x_7 (.s 9))) (by kernel_rfl) (.inl rfl)) rfl (by kernel_rfl) ?_
 refine SL.norm (itsN := [.rd 2 R_T_api_Subscription x_1.Subs, .rd 1 R8 x_2.1, .gone, .rd 1 R8 l_3, .rd 2 R_T_api_Subscription x_4.1.Subs, .blk 30 (C_api_Bond x_4.1 (.s 4)), .rd 2 R_T_api_Subscription x_5.Subs, .rd 2 R_T_api_Subscription x_6.Subs, .own 10 30 R_T_api_Bond [x_5, x_6], .rd 2 R_T_api_Subscription x_7.Subs]) (by kernel_rfl) ?_
 obtain ⟨x_8, e_x_8, hp⟩ := bind_inv hp
 refine SL.pre (pre_frz (i := 8) (sz := 10) (E := 30) (R := R_T_api_Bond) (l := [x_5, x_6]) (by kernel_rfl)) ?_
 refine SL.eff (e_c Tryd.call18 (ok_bonds_Add F [x_5, x_6] x_7 _ e_x_8) [.g 8, .g 9] [vs 8, .g (C_api_Bond x_7 (.s 9))] (.u [.inl (.s 10), .inl (ci .i64 x_8.2.1), .inl (ci .i64 x_8.2.2)]) (by kernel_rfl) (.inl rfl)) rfl (by kernel_rfl) ?_
 refine SL.sim tk 7 [(1, vs 1), (2, vi .i64 x_2.2), (3, vp 5 0), (4, vi .i64 x_4.2), (5, vs 10), (6, vi .i64 x_8.2.1), (7, vi .i64 x_8.2.2)] [] [] [] (by kernel_rfl) ?_
 refine SL.nilThen ?_
 refine SC.seq ?_
 refine SC.reg ?_
 refine SL.sim tk 1 [(1, vs 1), (2, vi .i64 x_2.2), (3, vp 5 0), (4, vi .i64 x_4.2), (5, vs 10), (6, vi .i64 x_8.2.1), (7, vi .i64 x_8.2.2), (32, vs 10)] [] [] [] (by kernel_rfl) ?_
 obtain ⟨x_9, e_x_9, hp⟩ := bind_inv hp
 refine SL.eff (e_c Tryd.call20 (ok_bonds_Remove F x_8.1 3 _ e_x_9) [.g 10] [vs 10, vi .i64 3] (.u [.inl (.s 11), .inl (ci .i64 x_9.2)]) (by kernel_rfl) (.inl rfl)) rfl (by kernel_rfl) ?_
 refine SL.norm (itsN := [.rd 2 R_T_api_Subscription x_1.Subs, .rd 1 R8 x_2.1, .gone, .rd 1 R8 l_3, .rd 2 R_T_api_Subscription x_4.1.Subs, .blk 30 (C_api_Bond x_4.1 (.s 4)), .rd 2 R_T_api_Subscription x_5.Subs, .rd 2 R_T_api_Subscription x_6.Subs, .rd 10 R_T_api_Bond [x_5, x_6], .rd 2 R_T_api_Subscription x_7.Subs, .rd 10 R_T_api_Bond x_8.1, .rd 10 R_T_api_Bond x_9.1]) (by kernel_rfl) ?_
 refine SL.sim tk 5 [(1, vs 1), (2, vi .i64 x_2.2), (3, vp 5 0), (4, vi .i64 x_4.2), (5, vs 10), (6, vi .i64 x_8.2.1), (7, vi .i64 x_8.2.2), (9, vi .i64 x_9.2)] [] [] [] (by kernel_rfl) ?_
 refine SL.nilThen ?_
 refine SC.cut (fun a w => ∃ (z_10 : Bool), wirelesslaw40_lives_j1 F z_10 = some r ∧ A 84 0 fx [(0, vb z_10)] [] a w) ?_ ?_
 · refine SC.draw MO [I, I, O, I, I, I, I, I, I, I, I, I] (by kernel_rfl) fun kap_11 D_12 => ?_
   refine SD.takes tk D_12 [] kn0 [0, 1, 2, 3, 4, 5, 6, 7, 8, 9, 10, 11] [] [] [I, I, I, I, I, I, I, I, I, I, I, I, O, O, O, O, O, O, O, O, O, O, O, O, O, O, O, O, O, O, O, O, O, O, O, O, O, O, O, O, O, O, O, O, O, O, O, O, O] [(3, vp 5 0), (5, vs 10), (6, vi .i64 x_8.2.1), (7, vi .i64 x_8.2.2), (9, vi .i64 x_9.2), (47, vb (((x_2.2 == 0) && ((len x_2.1) == 45)) && (x_4.2 == 0)))] rfl (by kernel_rfl) (by kernel_rfl) (by kernel_rfl) ?_
   rcases Bool.eq_false_or_eq_true ((((x_2.2 == 0) && ((len x_2.1) == 45)) && (x_4.2 == 0))) with hg_13 | hg_13
   · replace hp := if_t hp hg_13
     refine SD.takes tk D_12 [(47, true)] (knS rfl hg_13 kn0) [12] [] [] [I, I, I, I, I, I, I, I, I, I, I, I, I, O, O, O, O, O, O, O, O, O, O, O, O, O, O, O, O, O, O, O, O, O, O, O, O, O, O, O, O, O, O, O, O, O, O, O, O] [(5, vs 10), (6, vi .i64 x_8.2.1), (7, vi .i64 x_8.2.2), (9, vi .i64 x_9.2), (47, vb (((x_2.2 == 0) && ((len x_2.1) == 45)) && (x_4.2 == 0))), (48, .g (C_api_Bond x_4.1 (.s 4)))] rfl (by kernel_rfl) (by kernel_rfl) (by kernel_rfl) ?_
     obtain ⟨x_14, e_x_14, hp⟩ := bind_inv hp
     refine SD.all1 (i := 13) (by kernel_rfl) ?_
     refine SW.eff D_12 (i := 13) (bs' := [I, I, I, I, I, I, I, I, I, I, I, I, I, I, O, O, O, O, O, O, O, O, O, O, O, O, O, O, O, O, O, O, O, O, O, O, O, O, O, O, O, O, O, O, O, O, O, O, O]) rfl (.inr ⟨_, _, _, _, rfl, rfl, rfl, hg_13⟩) rfl (e_c Tryd.call36 (ok_wirelesslaw40_one F 3 _ e_x_14) [] [vi .u64 3] (.g (C_api_Bond x_14 (.s 12))) (by kernel_rfl) (.inl rfl)) (by kernel_rfl) rfl (by kernel_rfl) ?_
     obtain ⟨x_15, e_x_15, hp⟩ := bind_inv hp
     refine SD.all1 (i := 14) (by kernel_rfl) ?_
     refine SW.eff D_12 (i := 14) (bs' := [I, I, I, I, I, I, I, I, I, I, I, I, I, I, I, O, O, O, O, O, O, O, O, O, O, O, O, O, O, O, O, O, O, O, O, O, O, O, O, O, O, O, O, O, O, O, O, O, O]) rfl (.inr ⟨_, _, _, _, rfl, rfl, rfl, hg_13⟩) rfl (e_c Tryd.call16 (ok_wirelessref40_SameBond F x_4.1 x_14 _ e_x_15) [.g 4, .g 12] [.g (C_api_Bond x_4.1 (.s 4)), .g (C_api_Bond x_14 (.s 12))] (vb x_15) (by kernel_rfl) (.inl rfl)) (by kernel_rfl) rfl (by kernel_rfl) ?_
     refine SD.norm (itsN := [.rd 2 R_T_api_Subscription x_1.Subs, .rd 1 R8 x_2.1, .gone, .rd 1 R8 l_3, .rd 2 R_T_api_Subscription x_4.1.Subs, .blk 30 (C_api_Bond x_4.1 (.s 4)), .rd 2 R_T_api_Subscription x_5.Subs, .rd 2 R_T_api_Subscription x_6.Subs, .rd 10 R_T_api_Bond [x_5, x_6], .rd 2 R_T_api_Subscription x_7.Subs, .rd 10 R_T_api_Bond x_8.1, .rd 10 R_T_api_Bond x_9.1, .rd 2 R_T_api_Subscription x_14.Subs]) (by kernel_rfl) ?_
     refine SD.takes tk D_12 [(47, true)] (knS rfl hg_13 kn0) [15, 16, 17, 18, 19, 20, 21, 22, 23, 24, 25, 26, 27, 28, 29] [] [] [I, I, I, I, I, I, I, I, I, I, I, I, I, I, I, I, I, I, I, I, I, I, I, I, I, I, I, I, I, I, O, O, O, O, O, O, O, O, O, O, O, O, O, O, O, O, O, O, O] [(5, vs 10), (9, vi .i64 x_9.2), (65, vb (((x_15 && (x_8.2.2 == 0)) && (x_8.2.1 == 2)) && ((len x_8.1) == 3)))] rfl (by kernel_rfl) (by kernel_rfl) (by kernel_rfl) ?_
     rcases Bool.eq_false_or_eq_true ((((x_15 && (x_8.2.2 == 0)) && (x_8.2.1 == 2)) && ((len x_8.1) == 3))) with hg_16 | hg_16
     · replace hp := if_t hp hg_16
       refine SD.takes tk D_12 [(65, true)] (knS rfl hg_16 kn0) [30] [] [] [I, I, I, I, I, I, I, I, I, I, I, I, I, I, I, I, I, I, I, I, I, I, I, I, I, I, I, I, I, I, I, O, O, O, O, O, O, O, O, O, O, O, O, O, O, O, O, O, O] [(5, vs 10), (9, vi .i64 x_9.2), (65, vb (((x_15 && (x_8.2.2 == 0)) && (x_8.2.1 == 2)) && ((len x_8.1) == 3))), (66, vs 10)] rfl (by kernel_rfl) (by kernel_rfl) (by kernel_rfl) ?_
       obtain ⟨x_17, e_x_17, hp⟩ := bind_inv hp
       refine SD.pre (pre_ix (i := 10) (iv := 2) (sz := 10) (R := R_T_api_Bond) (l := x_8.1) (by kernel_rfl) rfl e_x_17) ?_
       refine SD.all1 (i := 31) (by kernel_rfl) ?_
       refine SW.eff D_12 (i := 31) (v := vp 13 0) (bs' := [I, I, I, I, I, I, I, I, I, I, I, I, I, I, I, I, I, I, I, I, I, I, I, I, I, I, I, I, I, I, I, I, O, O, O, O, O, O, O, O, O, O, O, O, O, O, O, O, O]) rfl (.inr ⟨_, _, _, _, rfl, rfl, rfl, hg_16⟩) rfl (e_valE tk (.el 13) [2] (by kernel_rfl)) (by kernel_rfl) rfl (by kernel_rfl) ?_
       refine SD.all1 (i := 32) (by kernel_rfl) ?_
       refine SW.eff D_12 (i := 32) (v := vp 13 9) (bs' := [I, I, I, I, I, I, I, I, I, I, I, I, I, I, I, I, I, I, I, I, I, I, I, I, I, I, I, I, I, I, I, I, I, O, O, O, O, O, O, O, O, O, O, O, O, O, O, O, O]) rfl (.inr ⟨_, _, _, _, rfl, rfl, rfl, hg_16⟩) rfl (e_val tk (by kernel_rfl)) (by kernel_rfl) rfl (by kernel_rfl) ?_
       refine SD.norm (itsN := [.rd 2 R_T_api_Subscription x_1.Subs, .rd 1 R8 x_2.1, .gone, .rd 1 R8 l_3, .rd 2 R_T_api_Subscription x_4.1.Subs, .blk 30 (C_api_Bond x_4.1 (.s 4)), .rd 2 R_T_api_Subscription x_5.Subs, .rd 2 R_T_api_Subscription x_6.Subs, .rd 10 R_T_api_Bond [x_5, x_6], .rd 2 R_T_api_Subscription x_7.Subs, .rd 10 R_T_api_Bond x_8.1, .rd 10 R_T_api_Bond x_9.1, .rd 2 R_T_api_Subscription x_14.Subs, .elt (some (10, 2)) false (C_api_Bond x_17 (.s 14)), .rd 2 R_T_api_Subscription x_17.Subs]) (by kernel_rfl) ?_
       refine SD.all1 (i := 33) (by kernel_rfl) ?_
       refine SW.eff D_12 (i := 33) (v := vi .i64 x_17.Used) (bs' := [I, I, I, I, I, I, I, I, I, I, I, I, I, I, I, I, I, I, I, I, I, I, I, I, I, I, I, I, I, I, I, I, I, I, O, O, O, O, O, O, O, O, O, O, O, O, O, O, O]) rfl (.inr ⟨_, _, _, _, rfl, rfl, rfl, hg_16⟩) rfl (e_val tk (by kernel_rfl)) (by kernel_rfl) rfl (by kernel_rfl) ?_
       refine SD.takes tk D_12 [(65, true)] (knS rfl hg_16 kn0) [34, 35, 36, 37, 38, 39, 40] [] [] [I, I, I, I, I, I, I, I, I, I, I, I, I, I, I, I, I, I, I, I, I, I, I, I, I, I, I, I, I, I, I, I, I, I, I, I, I, I, I, I, I, O, O, O, O, O, O, O, O] [(5, vs 10), (76, vb ((x_17.Used == 8) && (x_9.2 == 5)))] rfl (by kernel_rfl) (by kernel_rfl) (by kernel_rfl) ?_
       rcases Bool.eq_false_or_eq_true (((x_17.Used == 8) && (x_9.2 == 5))) with hg_18 | hg_18
       · replace hp := if_t hp hg_18
         refine SD.takes tk D_12 [(76, true)] (knS rfl hg_18 kn0) [41] [] [] [I, I, I, I, I, I, I, I, I, I, I, I, I, I, I, I, I, I, I, I, I, I, I, I, I, I, I, I, I, I, I, I, I, I, I, I, I, I, I, I, I, I, O, O, O, O, O, O, O] [(76, vb ((x_17.Used == 8) && (x_9.2 == 5))), (77, vs 10)] rfl (by kernel_rfl) (by kernel_rfl) (by kernel_rfl) ?_
         obtain ⟨x_19, e_x_19, hp⟩ := bind_inv hp
         refine SD.all1 (i := 42) (by kernel_rfl) ?_
         refine SW.eff D_12 (i := 42) (bs' := [I, I, I, I, I, I, I, I, I, I, I, I, I, I, I, I, I, I, I, I, I, I, I, I, I, I, I, I, I, I, I, I, I, I, I, I, I, I, I, I, I, I, I, O, O, O, O, O, O]) rfl (.inr ⟨_, _, _, _, rfl, rfl, rfl, hg_18⟩) rfl (e_c Tryd.call36 (ok_wirelesslaw40_one F 7 _ e_x_19) [] [vi .u64 7] (.g (C_api_Bond x_19 (.s 15))) (by kernel_rfl) (.inl rfl)) (by kernel_rfl) rfl (by kernel_rfl) ?_
         refine SD.norm (itsN := [.rd 2 R_T_api_Subscription x_1.Subs, .rd 1 R8 x_2.1, .gone, .rd 1 R8 l_3, .rd 2 R_T_api_Subscription x_4.1.Subs, .blk 30 (C_api_Bond x_4.1 (.s 4)), .rd 2 R_T_api_Subscription x_5.Subs, .rd 2 R_T_api_Subscription x_6.Subs, .rd 10 R_T_api_Bond [x_5, x_6], .rd 2 R_T_api_Subscription x_7.Subs, .rd 10 R_T_api_Bond x_8.1, .rd 10 R_T_api_Bond x_9.1, .rd 2 R_T_api_Subscription x_14.Subs, .elt (some (10, 2)) false (C_api_Bond x_17 (.s 14)), .rd 2 R_T_api_Subscription x_17.Subs, .rd 2 R_T_api_Subscription x_19.Subs]) (by kernel_rfl) ?_
         refine SD.takes tk D_12 [(76, true)] (knS rfl hg_18 kn0) [43, 44] [] [] [I, I, I, I, I, I, I, I, I, I, I, I, I, I, I, I, I, I, I, I, I, I, I, I, I, I, I, I, I, I, I, I, I, I, I, I, I, I, I, I, I, I, I, I, I, O, O, O, O] [(76, vb ((x_17.Used == 8) && (x_9.2 == 5))), (77, vs 10), (80, .g (C_api_Address x_19.Peer.Address))] rfl (by kernel_rfl) (by kernel_rfl) (by kernel_rfl) ?_
         obtain ⟨x_20, e_x_20, hp⟩ := bind_inv hp
         refine SD.all1 (i := 45) (by kernel_rfl) ?_
         refine SW.eff D_12 (i := 45) (bs' := [I, I, I, I, I, I, I, I, I, I, I, I, I, I, I, I, I, I, I, I, I, I, I, I, I, I, I, I, I, I, I, I, I, I, I, I, I, I, I, I, I, I, I, I, I, I, O, O, O]) rfl (.inr ⟨_, _, _, _, rfl, rfl, rfl, hg_18⟩) rfl (e_c Tryd.call25 (ok_bonds_Find F x_8.1 x_19.Peer.Address _ e_x_20) [.g 10] [vs 10, .g (C_api_Address x_19.Peer.Address)] (vi .i64 x_20) (by kernel_rfl) (.inl rfl)) (by kernel_rfl) rfl (by kernel_rfl) ?_
         refine SD.takes tk D_12 [(76, true)] (knS rfl hg_18 kn0) [46, 47, 48] [] [] [I, I, I, I, I, I, I, I, I, I, I, I, I, I, I, I, I, I, I, I, I, I, I, I, I, I, I, I, I, I, I, I, I, I, I, I, I, I, I, I, I, I, I, I, I, I, I, I, I] [(0, vb (x_20 == 1))] rfl (by kernel_rfl) (by kernel_rfl) (by kernel_rfl) ?_
         refine SD.done (by kernel_rfl) fun a w h => ?_
         exact ⟨(x_20 == 1), hp, h.at (js := []) (by kernel_rfl)⟩
       · replace hp := if_f hp hg_18
         refine SD.takes tk D_12 [(76, false)] (knS rfl hg_18 kn0) [41, 42, 43, 44, 45, 46, 47, 48] [] [] [I, I, I, I, I, I, I, I, I, I, I, I, I, I, I, I, I, I, I, I, I, I, I, I, I, I, I, I, I, I, I, I, I, I, I, I, I, I, I, I, I, I, I, I, I, I, I, I, I] [(0, vb false)] rfl (by kernel_rfl) (by kernel_rfl) (by kernel_rfl) ?_
         refine SD.done (by kernel_rfl) fun a w h => ?_
         exact ⟨false, hp, h.at (js := []) (by kernel_rfl)⟩
     · replace hp := if_f hp hg_16
       refine SD.takes tk D_12 [(65, false)] (knS rfl hg_16 kn0) [30, 31, 32, 33, 34, 35, 36, 37, 38, 39, 40] [] [] [I, I, I, I, I, I, I, I, I, I, I, I, I, I, I, I, I, I, I, I, I, I, I, I, I, I, I, I, I, I, I, I, I, I, I, I, I, I, I, I, I, O, O, O, O, O, O, O, O] [(5, vs 10), (76, vb (false && (x_9.2 == 5)))] rfl (by kernel_rfl) (by kernel_rfl) (by kernel_rfl) ?_
       rcases Bool.eq_false_or_eq_true ((false && (x_9.2 == 5))) with hg_21 | hg_21
       · replace hp := if_t hp hg_21
         refine SD.takes tk D_12 [(76, true)] (knS rfl hg_21 kn0) [41] [] [] [I, I, I, I, I, I, I, I, I, I, I, I, I, I, I, I, I, I, I, I, I, I, I, I, I, I, I, I, I, I, I, I, I, I, I, I, I, I, I, I, I, I, O, O, O, O, O, O, O] [(76, vb (false && (x_9.2 == 5))), (77, vs 10)] rfl (by kernel_rfl) (by kernel_rfl) (by kernel_rfl) ?_
         obtain ⟨x_22, e_x_22, hp⟩ := bind_inv hp
         refine SD.all1 (i := 42) (by kernel_rfl) ?_
         refine SW.eff D_12 (i := 42) (bs' := [I, I, I, I, I, I, I, I, I, I, I, I, I, I, I, I, I, I, I, I, I, I, I, I, I, I, I, I, I, I, I, I, I, I, I, I, I, I, I, I, I, I, I, O, O, O, O, O, O]) rfl (.inr ⟨_, _, _, _, rfl, rfl, rfl, hg_21⟩) rfl (e_c Tryd.call36 (ok_wirelesslaw40_one F 7 _ e_x_22) [] [vi .u64 7] (.g (C_api_Bond x_22 (.s 13))) (by kernel_rfl) (.inl rfl)) (by kernel_rfl) rfl (by kernel_rfl) ?_
         refine SD.takes tk D_12 [(76, true)] (knS rfl hg_21 kn0) [43, 44] [] [] [I, I, I, I, I, I, I, I, I, I, I, I, I, I, I, I, I, I, I, I, I, I, I, I, I, I, I, I, I, I, I, I, I, I, I, I, I, I, I, I, I, I, I, I, I, O, O, O, O] [(76, vb (false && (x_9.2 == 5))), (77, vs 10), (80, .g (C_api_Address x_22.Peer.Address))] rfl (by kernel_rfl) (by kernel_rfl) (by kernel_rfl) ?_
         obtain ⟨x_23, e_x_23, hp⟩ := bind_inv hp
         refine SD.all1 (i := 45) (by kernel_rfl) ?_
         refine SW.eff D_12 (i := 45) (bs' := [I, I, I, I, I, I, I, I, I, I, I, I, I, I, I, I, I, I, I, I, I, I, I, I, I, I, I, I, I, I, I, I, I, I, I, I, I, I, I, I, I, I, I, I, I, I, O, O, O]) rfl (.inr ⟨_, _, _, _, rfl, rfl, rfl, hg_21⟩) rfl (e_c Tryd.call25 (ok_bonds_Find F x_8.1 x_22.Peer.Address _ e_x_23) [.g 10] [vs 10, .g (C_api_Address x_22.Peer.Address)] (vi .i64 x_23) (by kernel_rfl) (.inl rfl)) (by kernel_rfl) rfl (by kernel_rfl) ?_
         refine SD.norm (itsN := [.rd 2 R_T_api_Subscription x_1.Subs, .rd 1 R8 x_2.1, .gone, .rd 1 R8 l_3, .rd 2 R_T_api_Subscription x_4.1.Subs, .blk 30 (C_api_Bond x_4.1 (.s 4)), .rd 2 R_T_api_Subscription x_5.Subs, .rd 2 R_T_api_Subscription x_6.Subs, .rd 10 R_T_api_Bond [x_5, x_6], .rd 2 R_T_api_Subscription x_7.Subs, .rd 10 R_T_api_Bond x_8.1, .rd 10 R_T_api_Bond x_9.1, .rd 2 R_T_api_Subscription x_14.Subs, .rd 2 R_T_api_Subscription x_22.Subs]) (by kernel_rfl) ?_
         refine SD.takes tk D_12 [(76, true)] (knS rfl hg_21 kn0) [46, 47, 48] [] [] [I, I, I, I, I, I, I, I, I, I, I, I, I, I, I, I, I, I, I, I, I, I, I, I, I, I, I, I, I, I, I, I, I, I, I, I, I, I, I, I, I, I, I, I, I, I, I, I, I] [(0, vb (x_23 == 1))] rfl (by kernel_rfl) (by kernel_rfl) (by kernel_rfl) ?_
         refine SD.done (by kernel_rfl) fun a w h => ?_
         exact ⟨(x_23 == 1), hp, h.at (js := []) (by kernel_rfl)⟩
       · replace hp := if_f hp hg_21
         refine SD.takes tk D_12 [(76, false)] (knS rfl hg_21 kn0) [41, 42, 43, 44, 45, 46, 47, 48] [] [] [I, I, I, I, I, I, I, I, I, I, I, I, I, I, I, I, I, I, I, I, I, I, I, I, I, I, I, I, I, I, I, I, I, I, I, I, I, I, I, I, I, I, I, I, I, I, I, I, I] [(0, vb false)] rfl (by kernel_rfl) (by kernel_rfl) (by kernel_rfl) ?_
         refine SD.done (by kernel_rfl) fun a w h => ?_
         exact ⟨false, hp, h.at (js := []) (by kernel_rfl)⟩
   · replace hp := if_f hp hg_13
     refine SD.takes tk D_12 [(47, false)] (knS rfl hg_13 kn0) [12, 13, 14, 15, 16, 17, 18, 19, 20, 21, 22, 23, 24, 25, 26, 27, 28, 29] [] [] [I, I, I, I, I, I, I, I, I, I, I, I, I, I, I, I, I, I, I, I, I, I, I, I, I, I, I, I, I, I, O, O, O, O, O, O, O, O, O, O, O, O, O, O, O, O, O, O, O] [(5, vs 10), (9, vi .i64 x_9.2), (65, vb (((false && (x_8.2.2 == 0)) && (x_8.2.1 == 2)) && ((len x_8.1) == 3)))] rfl (by kernel_rfl) (by kernel_rfl) (by kernel_rfl) ?_
     rcases Bool.eq_false_or_eq_true ((((false && (x_8.2.2 == 0)) && (x_8.2.1 == 2)) && ((len x_8.1) == 3))) with hg_24 | hg_24
     · replace hp := if_t hp hg_24
       refine SD.takes tk D_12 [(65, true)] (knS rfl hg_24 kn0) [30] [] [] [I, I, I, I, I, I, I, I, I, I, I, I, I, I, I, I, I, I, I, I, I, I, I, I, I, I, I, I, I, I, I, O, O, O, O, O, O, O, O, O, O, O, O, O, O, O, O, O, O] [(5, vs 10), (9, vi .i64 x_9.2), (65, vb (((false && (x_8.2.2 == 0)) && (x_8.2.1 == 2)) && ((len x_8.1) == 3))), (66, vs 10)] rfl (by kernel_rfl) (by kernel_rfl) (by kernel_rfl) ?_
       obtain ⟨x_25, e_x_25, hp⟩ := bind_inv hp
       refine SD.pre (pre_ix (i := 10) (iv := 2) (sz := 10) (R := R_T_api_Bond) (l := x_8.1) (by kernel_rfl) rfl e_x_25) ?_
       refine SD.all1 (i := 31) (by kernel_rfl) ?_
       refine SW.eff D_12 (i := 31) (v := vp 12 0) (bs' := [I, I, I, I, I, I, I, I, I, I, I, I, I, I, I, I, I, I, I, I, I, I, I, I, I, I, I, I, I, I, I, I, O, O, O, O, O, O, O, O, O, O, O, O, O, O, O, O, O]) rfl (.inr ⟨_, _, _, _, rfl, rfl, rfl, hg_24⟩) rfl (e_valE tk (.el 12) [2] (by kernel_rfl)) (by kernel_rfl) rfl (by kernel_rfl) ?_
       refine SD.all1 (i := 32) (by kernel_rfl) ?_
       refine SW.eff D_12 (i := 32) (v := vp 12 9) (bs' := [I, I, I, I, I, I, I, I, I, I, I, I, I, I, I, I, I, I, I, I, I, I, I, I, I, I, I, I, I, I, I, I, I, O, O, O, O, O, O, O, O, O, O, O, O, O, O, O, O]) rfl (.inr ⟨_, _, _, _, rfl, rfl, rfl, hg_24⟩) rfl (e_val tk (by kernel_rfl)) (by kernel_rfl) rfl (by kernel_rfl) ?_
       refine SD.norm (itsN := [.rd 2 R_T_api_Subscription x_1.Subs, .rd 1 R8 x_2.1, .gone, .rd 1 R8 l_3, .rd 2 R_T_api_Subscription x_4.1.Subs, .blk 30 (C_api_Bond x_4.1 (.s 4)), .rd 2 R_T_api_Subscription x_5.Subs, .rd 2 R_T_api_Subscription x_6.Subs, .rd 10 R_T_api_Bond [x_5, x_6], .rd 2 R_T_api_Subscription x_7.Subs, .rd 10 R_T_api_Bond x_8.1, .rd 10 R_T_api_Bond x_9.1, .elt (some (10, 2)) false (C_api_Bond x_25 (.s 13)), .rd 2 R_T_api_Subscription x_25.Subs]) (by kernel_rfl) ?_
       refine SD.all1 (i := 33) (by kernel_rfl) ?_
       refine SW.eff D_12 (i := 33) (v := vi .i64 x_25.Used) (bs' := [I, I, I, I, I, I, I, I, I, I, I, I, I, I, I, I, I, I, I, I, I, I, I, I, I, I, I, I, I, I, I, I, I, I, O, O, O, O, O, O, O, O, O, O, O, O, O, O, O]) rfl (.inr ⟨_, _, _, _, rfl, rfl, rfl, hg_24⟩) rfl (e_val tk (by kernel_rfl)) (by kernel_rfl) rfl (by kernel_rfl) ?_
       refine SD.takes tk D_12 [(65, true)] (knS rfl hg_24 kn0) [34, 35, 36, 37, 38, 39, 40] [] [] [I, I, I, I, I, I, I, I, I, I, I, I, I, I, I, I, I, I, I, I, I, I, I, I, I, I, I, I, I, I, I, I, I, I, I, I, I, I, I, I, I, O, O, O, O, O, O, O, O] [(5, vs 10), (76, vb ((x_25.Used == 8) && (x_9.2 == 5)))] rfl (by kernel_rfl) (by kernel_rfl) (by kernel_rfl) ?_
       rcases Bool.eq_false_or_eq_true (((x_25.Used == 8) && (x_9.2 == 5))) with hg_26 | hg_26
       · replace hp := if_t hp hg_26
         refine SD.takes tk D_12 [(76, true)] (knS rfl hg_26 kn0) [41] [] [] [I, I, I, I, I, I, I, I, I, I, I, I, I, I, I, I, I, I, I, I, I, I, I, I, I, I, I, I, I, I, I, I, I, I, I, I, I, I, I, I, I, I, O, O, O, O, O, O, O] [(76, vb ((x_25.Used == 8) && (x_9.2 == 5))), (77, vs 10)] rfl (by kernel_rfl) (by kernel_rfl) (by kernel_rfl) ?_
         obtain ⟨x_27, e_x_27, hp⟩ := bind_inv hp
         refine SD.all1 (i := 42) (by kernel_rfl) ?_
         refine SW.eff D_12 (i := 42) (bs' := [I, I, I, I, I, I, I, I, I, I, I, I, I, I, I, I, I, I, I, I, I, I, I, I, I, I, I, I, I, I, I, I, I, I, I, I, I, I, I, I, I, I, I, O, O, O, O, O, O]) rfl (.inr ⟨_, _, _, _, rfl, rfl, rfl, hg_26⟩) rfl (e_c Tryd.call36 (ok_wirelesslaw40_one F 7 _ e_x_27) [] [vi .u64 7] (.g (C_api_Bond x_27 (.s 14))) (by kernel_rfl) (.inl rfl)) (by kernel_rfl) rfl (by kernel_rfl) ?_
         refine SD.norm (itsN := [.rd 2 R_T_api_Subscription x_1.Subs, .rd 1 R8 x_2.1, .gone, .rd 1 R8 l_3, .rd 2 R_T_api_Subscription x_4.1.Subs, .blk 30 (C_api_Bond x_4.1 (.s 4)), .rd 2 R_T_api_Subscription x_5.Subs, .rd 2 R_T_api_Subscription x_6.Subs, .rd 10 R_T_api_Bond [x_5, x_6], .rd 2 R_T_api_Subscription x_7.Subs, .rd 10 R_T_api_Bond x_8.1, .rd 10 R_T_api_Bond x_9.1, .elt (some (10, 2)) false (C_api_Bond x_25 (.s 13)), .rd 2 R_T_api_Subscription x_25.Subs, .rd 2 R_T_api_Subscription x_27.Subs]) (by kernel_rfl) ?_
         refine SD.takes tk D_12 [(76, true)] (knS rfl hg_26 kn0) [43, 44] [] [] [I, I, I, I, I, I, I, I, I, I, I, I, I, I, I, I, I, I, I, I, I, I, I, I, I, I, I, I, I, I, I, I, I, I, I, I, I, I, I, I, I, I, I, I, I, O, O, O, O] [(76, vb ((x_25.Used == 8) && (x_9.2 == 5))), (77, vs 10), (80, .g (C_api_Address x_27.Peer.Address))] rfl (by kernel_rfl) (by kernel_rfl) (by kernel_rfl) ?_
         obtain ⟨x_28, e_x_28, hp⟩ := bind_inv hp
         refine SD.all1 (i := 45) (by kernel_rfl) ?_
         refine SW.eff D_12 (i := 45) (bs' := [I, I, I, I, I, I, I, I, I, I, I, I, I, I, I, I, I, I, I, I, I, I, I, I, I, I, I, I, I, I, I, I, I, I, I, I, I, I, I, I, I, I, I, I, I, I, O, O, O]) rfl (.inr ⟨_, _, _, _, rfl, rfl, rfl, hg_26⟩) rfl (e_c Tryd.call25 (ok_bonds_Find F x_8.1 x_27.Peer.Address _ e_x_28) [.g 10] [vs 10, .g (C_api_Address x_27.Peer.Address)] (vi .i64 x_28) (by kernel_rfl) (.inl rfl)) (by kernel_rfl) rfl (by kernel_rfl) ?_
         refine SD.takes tk D_12 [(76, true)] (knS rfl hg_26 kn0) [46, 47, 48] [] [] [I, I, I, I, I, I, I, I, I, I, I, I, I, I, I, I, I, I, I, I, I, I, I, I, I, I, I, I, I, I, I, I, I, I, I, I, I, I, I, I, I, I, I, I, I, I, I, I, I] [(0, vb (x_28 == 1))] rfl (by kernel_rfl) (by kernel_rfl) (by kernel_rfl) ?_
         refine SD.done (by kernel_rfl) fun a w h => ?_
         exact ⟨(x_28 == 1), hp, h.at (js := []) (by kernel_rfl)⟩
       · replace hp := if_f hp hg_26
         refine SD.takes tk D_12 [(76, false)] (knS rfl hg_26 kn0) [41, 42, 43, 44, 45, 46, 47, 48] [] [] [I, I, I, I, I, I, I, I, I, I, I, I, I, I, I, I, I, I, I, I, I, I, I, I, I, I, I, I, I, I, I, I, I, I, I, I, I, I, I, I, I, I, I, I, I, I, I, I, I] [(0, vb false)] rfl (by kernel_rfl) (by kernel_rfl) (by kernel_rfl) ?_
         refine SD.done (by kernel_rfl) fun a w h => ?_
         exact ⟨false, hp, h.at (js := []) (by kernel_rfl)⟩
     · replace hp := if_f hp hg_24
       refine SD.takes tk D_12 [(65, false)] (knS rfl hg_24 kn0) [30, 31, 32, 33, 34, 35, 36, 37, 38, 39, 40] [] [] [I, I, I, I, I, I, I, I, I, I, I, I, I, I, I, I, I, I, I, I, I, I, I, I, I, I, I, I, I, I, I, I, I, I, I, I, I, I, I, I, I, O, O, O, O, O, O, O, O] [(5, vs 10), (76, vb (false && (x_9.2 == 5)))] rfl (by kernel_rfl) (by kernel_rfl) (by kernel_rfl) ?_
       rcases Bool.eq_false_or_eq_true ((false && (x_9.2 == 5))) with hg_29 | hg_29
       · replace hp := if_t hp hg_29
         refine SD.takes tk D_12 [(76, true)] (knS rfl hg_29 kn0) [41] [] [] [I, I, I, I, I, I, I, I, I, I, I, I, I, I, I, I, I, I, I, I, I, I, I, I, I, I, I, I, I, I, I, I, I, I, I, I, I, I, I, I, I, I, O, O, O, O, O, O, O] [(76, vb (false && (x_9.2 == 5))), (77, vs 10)] rfl (by kernel_rfl) (by kernel_rfl) (by kernel_rfl) ?_
         obtain ⟨x_30, e_x_30, hp⟩ := bind_inv hp
         refine SD.all1 (i := 42) (by kernel_rfl) ?_
         refine SW.eff D_12 (i := 42) (bs' := [I, I, I, I, I, I, I, I, I, I, I, I, I, I, I, I, I, I, I, I, I, I, I, I, I, I, I, I, I, I, I, I, I, I, I, I, I, I, I, I, I, I, I, O, O, O, O, O, O]) rfl (.inr ⟨_, _, _, _, rfl, rfl, rfl, hg_29⟩) rfl (e_c Tryd.call36 (ok_wirelesslaw40_one F 7 _ e_x_30) [] [vi .u64 7] (.g (C_api_Bond x_30 (.s 12))) (by kernel_rfl) (.inl rfl)) (by kernel_rfl) rfl (by kernel_rfl) ?_
         refine SD.takes tk D_12 [(76, true)] (knS rfl hg_29 kn0) [43, 44] [] [] [I, I, I, I, I, I, I, I, I, I, I, I, I, I, I, I, I, I, I, I, I, I, I, I, I, I, I, I, I, I, I, I, I, I, I, I, I, I, I, I, I, I, I, I, I, O, O, O, O] [(76, vb (false && (x_9.2 == 5))), (77, vs 10), (80, .g (C_api_Address x_30.Peer.Address))] rfl (by kernel_rfl) (by kernel_rfl) (by kernel_rfl) ?_
         obtain ⟨x_31, e_x_31, hp⟩ := bind_inv hp
         refine SD.all1 (i := 45) (by kernel_rfl) ?_
         refine SW.eff D_12 (i := 45) (bs' := [I, I, I, I, I, I, I, I, I, I, I, I, I, I, I, I, I, I, I, I, I, I, I, I, I, I, I, I, I, I, I, I, I, I, I, I, I, I, I, I, I, I, I, I, I, I, O, O, O]) rfl (.inr ⟨_, _, _, _, rfl, rfl, rfl, hg_29⟩) rfl (e_c Tryd.call25 (ok_bonds_Find F x_8.1 x_30.Peer.Address _ e_x_31) [.g 10] [vs 10, .g (C_api_Address x_30.Peer.Address)] (vi .i64 x_31) (by kernel_rfl) (.inl rfl)) (by kernel_rfl) rfl (by kernel_rfl) ?_
         refine SD.norm (itsN := [.rd 2 R_T_api_Subscription x_1.Subs, .rd 1 R8 x_2.1, .gone, .rd 1 R8 l_3, .rd 2 R_T_api_Subscription x_4.1.Subs, .blk 30 (C_api_Bond x_4.1 (.s 4)), .rd 2 R_T_api_Subscription x_5.Subs, .rd 2 R_T_api_Subscription x_6.Subs, .rd 10 R_T_api_Bond [x_5, x_6], .rd 2 R_T_api_Subscription x_7.Subs, .rd 10 R_T_api_Bond x_8.1, .rd 10 R_T_api_Bond x_9.1, .rd 2 R_T_api_Subscription x_30.Subs]) (by kernel_rfl) ?_
         refine SD.takes tk D_12 [(76, true)] (knS rfl hg_29 kn0) [46, 47, 48] [] [] [I, I, I, I, I, I, I, I, I, I, I, I, I, I, I, I, I, I, I, I, I, I, I, I, I, I, I, I, I, I, I, I, I, I, I, I, I, I, I, I, I, I, I, I, I, I, I, I, I] [(0, vb (x_31 == 1))] rfl (by kernel_rfl) (by kernel_rfl) (by kernel_rfl) ?_
         refine SD.done (by kernel_rfl) fun a w h => ?_
         exact ⟨(x_31 == 1), hp, h.at (js := []) (by kernel_rfl)⟩
       · replace hp := if_f hp hg_29
         refine SD.takes tk D_12 [(76, false)] (knS rfl hg_29 kn0) [41, 42, 43, 44, 45, 46, 47, 48] [] [] [I, I, I, I, I, I, I, I, I, I, I, I, I, I, I, I, I, I, I, I, I, I, I, I, I, I, I, I, I, I, I, I, I, I, I, I, I, I, I, I, I, I, I, I, I, I, I, I, I] [(0, vb false)] rfl (by kernel_rfl) (by kernel_rfl) (by kernel_rfl) ?_
         refine SD.done (by kernel_rfl) fun a w h => ?_
         exact ⟨false, hp, h.at (js := []) (by kernel_rfl)⟩
 · rintro a w ⟨z_10, hp, h⟩
   refine h.go ?_
   obtain rfl := some_inv' hp
   exact SC.re (js := []) tk (by kernel_rfl)

theorem ok_wirelessref40_Copy (F : Nat) (l_1 : (List T_api_Bond)) (r : (List T_api_Bond)) (hp : wirelessref40_Copy F l_1 = some r) : Spec Tryd.prog 9 [vs 0] [.rd 10 R_T_api_Bond l_1] (vs 1) [.gone, .rd 10 R_T_api_Bond r] := by
 refine Spec.enter Tryd.func9 rfl Tryd.ntmps9 rfl rfl fun fx => ?_
 refine SC.r tk [(0, vs 0)] [] [] [] (by kernel_rfl) ?_
 refine SC.seq ?_
 refine SC.reg ?_
 refine SL.eff (e_lit (sz := 10) (E := 30) (R := R_T_api_Bond) (by_ := 96) tk [] ([] : (List T_api_Bond)) (by kernel_rfl) trivial rfl (by kernel_rfl) (by kernel_rfl)) rfl (by kernel_rfl) ?_
 refine SL.sim tk 1 [(0, vs 0), (3, vs 1)] [] [] [] (by kernel_rfl) ?_
 refine SL.nilThen ?_
 refine SC.cut (fun a w => ∃ (l_2 : (List T_api_Bond)), wirelessref40_Copy_j1 F l_2 = some r ∧ A 27 1 fx [(3, vs 1)] [.gone, .own 10 30 R_T_api_Bond l_2] a w) ?_ ?_
 · refine SC.r tk [(0, vs 0), (3, vs 1), (4, vi .i64 0)] [] [] [] (by kernel_rfl) ?_
   refine SC.block ?_
   obtain ⟨o1, hi1, ho1⟩ := bind_inv hp
   clear hp
   refine SC.loop (fun n a w => ∃ (l_3 : (List T_api_Bond)) (x_4 : Int), iter (fun s => wirelessref40_Copy_l1 F l_1 s.1 s.2) n (l_3, x_4) = some o1 ∧ A 27 1 fx [(0, vs 0), (3, vs 1), (4, vi .i64 x_4)] [.rd 10 R_T_api_Bond l_1, .own 10 30 R_T_api_Bond l_3] a w) F (fun a w h => ⟨([] : (List T_api_Bond)), 0, hi1, h.at (js := [.g 0, .g 1]) (by kernel_rfl)⟩) ?_
   rintro n1 a w ⟨l_3, x_4, hi1, h⟩
   obtain ⟨n1, q1, rfl, hp, hs1⟩ := iter_inv hi1
   replace hp : wirelessref40_Copy_l1 F l_1 l_3 x_4 = some q1 := hp
   clear hi1
   refine h.go ?_
   refine SC.seq ?_
   refine SC.r tk [(0, vs 0), (3, vs 1), (4, vi .i64 x_4), (10, vb (decide (x_4 < (len l_1))))] [] [] [] (by kernel_rfl) ?_
   refine SC.if' rfl hp (fun hp => ?_) (fun hp => ?_)
   · refine SC.skipThen ?_
     refine SC.seq ?_
     refine SC.block ?_
     refine SC.seq ?_
     refine SC.reg ?_
     obtain ⟨x_5, e_x_5, hp⟩ := bind_inv hp
     refine SL.pre (pre_ix (i := 0) (iv := x_4) (sz := 10) (R := R_T_api_Bond) (l := l_1) (by kernel_rfl) rfl e_x_5) ?_
     refine SL.sim tk 4 [(0, vs 0), (3, vs 1), (4, vi .i64 x_4), (16, .g (C_api_Bond x_5 (.s 3)))] [] [.el 2] [x_4] (by kernel_rfl) ?_
     refine SL.eff (e_alloc (E := 30) tk (C_api_Bond (T_api_Bond.mk (T_api_Identity.mk (T_api_Address.mk 0 0) 0) 0 0 false 0 false [] 0) nl) (by kernel_rfl)) rfl (by kernel_rfl) ?_
     refine SL.sim tk 1 [(0, vs 0), (3, vs 1), (4, vi .i64 x_4), (5, vp 4 0)] [(4, 30, (C_api_Bond x_5 (.s 3)))] [] [] (by kernel_rfl) ?_
     refine SL.nilThen ?_
     refine SC.seq ?_
     refine SC.reg ?_
     refine SL.eff (e_lit (sz := 2) (E := 89) (R := R_T_api_Subscription) (by_ := 16) tk [] ([] : (List T_api_Subscription)) (by kernel_rfl) trivial rfl (by kernel_rfl) (by kernel_rfl)) rfl (by kernel_rfl) ?_
     refine SL.norm (itsN := [.rd 10 R_T_api_Bond l_1, .own 10 30 R_T_api_Bond l_3, .elt (some (0, x_4)) false (C_api_Bond x_5 (.s 3)), .rd 2 R_T_api_Subscription x_5.Subs, .blk 30 (C_api_Bond x_5 (.s 3)), .own 2 89 R_T_api_Subscription ([] : (List T_api_Subscription))]) (by kernel_rfl) ?_
     refine SL.sim tk 2 [(0, vs 0), (3, vs 1), (4, vi .i64 x_4), (5, vp 4 0), (17, vs 5), (19, vs 3)] [] [] [] (by kernel_rfl) ?_
     obtain ⟨l_6, e_l_6, hp⟩ := bind_inv hp
     refine SL.eff (e_app (i := 5) (l := ([] : (List T_api_Subscription))) (sz := 2) (E := 89) (R := R_T_api_Subscription) (by_ := 16) (m := x_5.Subs) tk rfl (by kernel_rfl) rfl (.r (by kernel_rfl)) e_l_6 (by kernel_rfl)) rfl (by kernel_rfl) ?_
     refine SL.sim tk 2 [(0, vs 0), (3, vs 1), (4, vi .i64 x_4), (5, vp 4 0)] [(4, 30, (C_api_Bond ({ x_5 with Subs := l_6 }) (.s 6)))] [] [] (by kernel_rfl) ?_
     refine SL.nilThen ?_
     refine SC.reg ?_
     refine SL.sim tk 2 [(0, vs 0), (3, vs 1), (4, vi .i64 x_4), (22, vs 1), (23, .g (C_api_Bond ({ x_5 with Subs := l_6 }) (.s 6)))] [] [] [] (by kernel_rfl) ?_
     refine SL.pre (pre_frz (i := 6) (sz := 2) (E := 89) (R := R_T_api_Subscription) (l := l_6) (by kernel_rfl)) ?_
     refine SL.eff (e_lit (sz := 10) (E := 30) (R := R_T_api_Bond) (by_ := 96) tk [(C_api_Bond ({ x_5 with Subs := l_6 }) (.s 6))] [{ x_5 with Subs := l_6 }] (by kernel_rfl) ⟨(clo_T_api_Bond (x := { x_5 with Subs := l_6 }) (Clo.sl (by kernel_rfl))), trivial⟩ rfl (by kernel_rfl) (by kernel_rfl)) rfl (by kernel_rfl) ?_
     obtain ⟨l_7, e_l_7, hp⟩ := bind_inv hp
     refine SL.eff (e_app (i := 1) (l := l_3) (sz := 10) (E := 30) (R := R_T_api_Bond) (by_ := 96) (m := [{ x_5 with Subs := l_6 }]) tk rfl (by kernel_rfl) rfl (.o 30 (by kernel_rfl)) e_l_7 (by kernel_rfl)) rfl (by kernel_rfl) ?_
     refine SL.norm (itsN := [.rd 10 R_T_api_Bond l_1, .gone, .elt (some (0, x_4)) false (C_api_Bond x_5 (.s 3)), .rd 2 R_T_api_Subscription x_5.Subs, .blk 30 (C_api_Bond ({ x_5 with Subs := l_6 }) (.s 6)), .gone, .rd 2 R_T_api_Subscription l_6, .own 10 30 R_T_api_Bond [{ x_5 with Subs := l_6 }], .own 10 30 R_T_api_Bond l_7]) (by kernel_rfl) ?_
     refine SL.sim tk 1 [(0, vs 0), (3, vs 8), (4, vi .i64 x_4)] [] [] [] (by kernel_rfl) ?_
     refine SL.nilThen ?_
     refine SC.reg ?_
     refine SL.sim tk 3 [(0, vs 0), (3, vs 8), (4, vi .i64 (w64 (x_4 + 1)))] [] [] [] (by kernel_rfl) ?_
     refine SL.nilJ fun a w h => ?_
     exact ⟨n1, Nat.lt_succ_self _, l_7, w64 (x_4 + 1), next_inv hp hs1, h.at (js := [.g 0, .g 8]) (by kernel_rfl)⟩
   · refine SC.exitJ rfl fun a w h => ?_
     have ho := done_inv hp hs1
     replace hp := ho1
     try rw [ho] at hp
     exact ⟨l_3, hp, h.at (js := [.g 0, .g 1]) (by kernel_rfl)⟩
 · rintro a w ⟨l_2, hp, h⟩
   refine h.go ?_
   refine SC.r tk [(2, vs 1)] [] [] [] (by kernel_rfl) ?_
   obtain rfl := some_inv' hp
   exact SC.re (js := [.g 0, .z 1]) tk (by kernel_rfl)

theorem ok_wirelessref08_prefix (F : Nat) (kind_1 : Int) (r : Int) (hp : wirelessref08_prefix F kind_1 = some r) : Spec Tryd.prog 72 [vi .i64 kind_1] [] (vi .u64 r) [] := by
 refine Spec.enter Tryd.func72 rfl Tryd.ntmps72 rfl rfl fun fx => ?_
 refine SC.r tk [(0, vi .i64 kind_1)] [] [] [] (by kernel_rfl) ?_
 refine SC.seq ?_
 refine SC.r tk [(3, vi .i64 kind_1)] [] [] [] (by kernel_rfl) ?_
 refine SC.block ?_
 refine SC.r tk [(3, vi .i64 kind_1), (4, vb (kind_1 == 2))] [] [] [] (by kernel_rfl) ?_
 refine SC.if' rfl hp (fun hp => ?_) (fun hp => ?_)
 · refine SC.r tk [(2, vi .u64 3)] [] [] [] (by kernel_rfl) ?_
   obtain rfl := some_inv' hp
   exact SC.re (js := []) tk (by kernel_rfl)
 · refine SC.r tk [(6, vb (kind_1 == 3))] [] [] [] (by kernel_rfl) ?_
   refine SC.if' rfl hp (fun hp => ?_) (fun hp => ?_)
   · refine SC.r tk [(2, vi .u64 1)] [] [] [] (by kernel_rfl) ?_
     obtain rfl := some_inv' hp
     exact SC.re (js := []) tk (by kernel_rfl)
   · refine SC.skipThen ?_
     refine SC.r tk [(2, vi .u64 0)] [] [] [] (by kernel_rfl) ?_
     obtain rfl := some_inv' hp
     exact SC.re (js := []) tk (by kernel_rfl)

theorem ok_wirelessref08_Check (F : Nat) (a_1 : T_api_Address) (r : Int) (hp : wirelessref08_Check F a_1 = some r) : Spec Tryd.prog 49 [.g (C_api_Address a_1)] [] (vi .i64 r) [] := by
 refine Spec.enter Tryd.func49 rfl Tryd.ntmps49 rfl rfl fun fx => ?_
 refine SC.seq ?_
 refine SC.reg ?_
 refine SL.eff (e_box (E := 24) (C_api_Address a_1) (by kernel_rfl)) rfl (by kernel_rfl) ?_
 refine SL.sim tk 1 [(1, vp 0 0)] [] [] [] (by kernel_rfl) ?_
 refine SL.nilThen ?_
 refine SC.seq ?_
 refine SC.r tk [(1, vp 0 0), (12, vb ((decide (a_1.Kind < 1)) || (decide (a_1.Kind > 4))))] [] [] [] (by kernel_rfl) ?_
 refine SC.if' rfl hp (fun hp => ?_) (fun hp => ?_)
 · refine SC.r tk [(2, vi .i64 12)] [] [] [] (by kernel_rfl) ?_
   obtain rfl := some_inv' hp
   exact SC.re (js := []) tk (by kernel_rfl)
 · refine SC.skipThen ?_
   refine SC.seq ?_
   refine SC.r tk [(1, vp 0 0), (15, vb (decide (a_1.Bits ≥ 281474976710656)))] [] [] [] (by kernel_rfl) ?_
   refine SC.if' rfl hp (fun hp => ?_) (fun hp => ?_)
   · refine SC.r tk [(2, vi .i64 5)] [] [] [] (by kernel_rfl) ?_
     obtain rfl := some_inv' hp
     exact SC.re (js := []) tk (by kernel_rfl)
   · refine SC.skipThen ?_
     refine SC.seq ?_
     refine SC.r tk [(1, vp 0 0), (18, vb (a_1.Kind == 1))] [] [] [] (by kernel_rfl) ?_
     refine SC.if' rfl hp (fun hp => ?_) (fun hp => ?_)
     · refine SC.r tk [(2, vi .i64 0)] [] [] [] (by kernel_rfl) ?_
       obtain rfl := some_inv' hp
       exact SC.re (js := []) tk (by kernel_rfl)
     · refine SC.skipThen ?_
       refine SC.r tk [(1, vp 0 0), (3, vi .u64 (remp a_1.Bits 70368744177664))] [] [.bin .rem .u64 a_1.Bits 70368744177664 (remp a_1.Bits 70368744177664) (by kernel_rfl)] [a_1.Bits, 70368744177664] (by kernel_rfl) ?_
       refine SC.r tk [(1, vp 0 0), (3, vi .u64 (remp a_1.Bits 70368744177664)), (4, vi .u64 70368744177663)] [] [] [] (by kernel_rfl) ?_
       refine SC.cut (fun a w => ∃ (x_2 : Int) (x_3 : Int), wirelessref08_Check_j1 F a_1 x_2 x_3 = some r ∧ A 43 0 fx [(1, vp 0 0), (3, vi .u64 x_2), (4, vi .u64 x_3)] [.blk 24 (C_api_Address a_1)] a w) ?_ ?_
       · refine SC.r tk [(1, vp 0 0), (3, vi .u64 (remp a_1.Bits 70368744177664)), (4, vi .u64 70368744177663), (24, vb (a_1.Kind == 3))] [] [] [] (by kernel_rfl) ?_
         refine SC.if' rfl hp (fun hp => ?_) (fun hp => ?_)
         · refine SC.r tk [(1, vp 0 0), (3, vi .u64 (quop .u64 (remp a_1.Bits 70368744177664) 16777216))] [] [.bin .quo .u64 (remp a_1.Bits 70368744177664) 16777216 (quop .u64 (remp a_1.Bits 70368744177664) 16777216) (by kernel_rfl)] [(remp a_1.Bits 70368744177664), 16777216] (by kernel_rfl) ?_
           refine SC.reg ?_
           refine SL.sim tk 1 [(1, vp 0 0), (3, vi .u64 (quop .u64 (remp a_1.Bits 70368744177664) 16777216)), (4, vi .u64 4194303)] [] [] [] (by kernel_rfl) ?_
           refine SL.nilJ fun a w h => ?_
           exact ⟨(quop .u64 (remp a_1.Bits 70368744177664) 16777216), 4194303, hp, h.at (js := [.g 0]) (by kernel_rfl)⟩
         · refine SC.skipJ fun a w h => ?_
           exact ⟨(remp a_1.Bits 70368744177664), 70368744177663, hp, h.at (js := [.g 0]) (by kernel_rfl)⟩
       · rintro a w ⟨x_2, x_3, hp, h⟩
         refine h.go ?_
         refine SC.seq ?_
         refine SC.cut (fun a w => ∃ (z_4 : Bool), wirelessref08_Check_j2 F z_4 = some r ∧ A 43 0 fx [(42, vb z_4)] [] a w) ?_ ?_
         · refine SC.draw MO [true] (by kernel_rfl) fun kap_5 D_6 => ?_
           refine SD.takes tk D_6 [] kn0 [0, 1, 2, 3, 4] [.bin .quo .u64 a_1.Bits 70368744177664 (quop .u64 a_1.Bits 70368744177664) (by kernel_rfl)] [a_1.Bits, 70368744177664] [I, I, I, I, I, O, O, O, O, O, O, O, O, O, O, O] [(3, vi .u64 x_2), (4, vi .u64 x_3), (29, vi .u64 (quop .u64 a_1.Bits 70368744177664)), (31, vi .i64 a_1.Kind)] rfl (by kernel_rfl) (by kernel_rfl) (by kernel_rfl) ?_
           obtain ⟨x_7, e_x_7, hp⟩ := bind_inv hp
           refine SD.all1 (i := 5) (by kernel_rfl) ?_
           refine SW.eff D_6 (i := 5) (bs' := [I, I, I, I, I, I, O, O, O, O, O, O, O, O, O, O]) rfl (.inl rfl) rfl (e_c Tryd.call72 (ok_wirelessref08_prefix F a_1.Kind _ e_x_7) [] [vi .i64 a_1.Kind] (vi .u64 x_7) (by kernel_rfl) (.inl rfl)) (by kernel_rfl) rfl (by kernel_rfl) ?_
           refine SD.takes tk D_6 [] kn0 [6, 7, 8, 9, 10, 11, 12, 13, 14, 15] [] [] [I, I, I, I, I, I, I, I, I, I, I, I, I, I, I, I] [(42, vb ((((quop .u64 a_1.Bits 70368744177664) != x_7) || (x_2 == 0)) || (x_2 == x_3)))] rfl (by kernel_rfl) (by kernel_rfl) (by kernel_rfl) ?_
           refine SD.done (by kernel_rfl) fun a w h => ?_
           exact ⟨((((quop .u64 a_1.Bits 70368744177664) != x_7) || (x_2 == 0)) || (x_2 == x_3)), hp, h.at (js := []) (by kernel_rfl)⟩
         · rintro a w ⟨z_4, hp, h⟩
           refine h.go ?_
           refine SC.if' rfl hp (fun hp => ?_) (fun hp => ?_)
           · refine SC.r tk [(2, vi .i64 1)] [] [] [] (by kernel_rfl) ?_
             obtain rfl := some_inv' hp
             exact SC.re (js := []) tk (by kernel_rfl)
           · refine SC.skipThen ?_
             refine SC.r tk [(2, vi .i64 0)] [] [] [] (by kernel_rfl) ?_
             obtain rfl := some_inv' hp
             exact SC.re (js := []) tk (by kernel_rfl)

theorem ok_wirelessref40_Check (F : Nat) (b_1 : T_api_Bond) (r : Int) (hp : wirelessref40_Check F b_1 = some r) : Spec Tryd.prog 15 [.g (C_api_Bond b_1 (.s 0))] [.rd 2 R_T_api_Subscription b_1.Subs] (vi .i64 r) [.gone] := by
 refine Spec.enter Tryd.func15 rfl Tryd.ntmps15 rfl rfl fun fx => ?_
 refine SC.seq ?_
 refine SC.reg ?_
 refine SL.eff (e_box (E := 30) (C_api_Bond b_1 (.s 0)) (by kernel_rfl)) rfl (by kernel_rfl) ?_
 refine SL.sim tk 1 [(1, vp 1 0)] [] [] [] (by kernel_rfl) ?_
 refine SL.nilThen ?_
 refine SC.seq ?_
 refine SC.reg ?_
 refine SL.sim tk 3 [(1, vp 1 0), (8, .g (C_api_Address b_1.Peer.Address))] [] [] [] (by kernel_rfl) ?_
 obtain ⟨x_2, e_x_2, hp⟩ := bind_inv hp
 refine SL.eff (e_c Tryd.call49 (ok_wirelessref08_Check F b_1.Peer.Address _ e_x_2) [] [.g (C_api_Address b_1.Peer.Address)] (vi .i64 x_2) (by kernel_rfl) (.inl rfl)) rfl (by kernel_rfl) ?_
 refine SL.sim tk 1 [(1, vp 1 0), (3, vi .i64 x_2)] [] [] [] (by kernel_rfl) ?_
 refine SL.nilThen ?_
 refine SC.seq ?_
 refine SC.r tk [(1, vp 1 0), (3, vi .i64 x_2), (11, vb (x_2 != 0))] [] [] [] (by kernel_rfl) ?_
 refine SC.if' rfl hp (fun hp => ?_) (fun hp => ?_)
 · refine SC.r tk [(2, vi .i64 x_2)] [] [] [] (by kernel_rfl) ?_
   obtain rfl := some_inv' hp
   exact SC.re (js := [.g 0]) tk (by kernel_rfl)
 · refine SC.skipThen ?_
   refine SC.seq ?_
   refine SC.r tk [(1, vp 1 0), (24, vb ((b_1.Peer.Address.Kind != 1) && (b_1.Peer.Address.Kind != 2)))] [] [] [] (by kernel_rfl) ?_
   refine SC.if' rfl hp (fun hp => ?_) (fun hp => ?_)
   · refine SC.r tk [(2, vi .i64 12)] [] [] [] (by kernel_rfl) ?_
     obtain rfl := some_inv' hp
     exact SC.re (js := [.g 0]) tk (by kernel_rfl)
   · refine SC.skipThen ?_
     refine SC.seq ?_
     refine SC.r tk [(1, vp 1 0), (32, vb ((decide (b_1.Used < 0)) || (decide (b_1.Used > 4294967295))))] [] [] [] (by kernel_rfl) ?_
     refine SC.if' rfl hp (fun hp => ?_) (fun hp => ?_)
     · refine SC.r tk [(2, vi .i64 5)] [] [] [] (by kernel_rfl) ?_
       obtain rfl := some_inv' hp
       exact SC.re (js := [.g 0]) tk (by kernel_rfl)
     · refine SC.skipThen ?_
       refine SC.seq ?_
       refine SC.r tk [(1, vp 1 0), (36, vb (decide ((len b_1.Subs) > 16)))] [] [] [] (by kernel_rfl) ?_
       refine SC.if' rfl hp (fun hp => ?_) (fun hp => ?_)
       · refine SC.r tk [(2, vi .i64 4)] [] [] [] (by kernel_rfl) ?_
         obtain rfl := some_inv' hp
         exact SC.re (js := [.g 0]) tk (by kernel_rfl)
       · refine SC.skipThen ?_
         refine SC.cut (fun a w => wirelessref40_Check_j1 F = some r ∧ A 76 1 fx [] [.gone] a w) ?_ ?_
         · refine SC.r tk [(1, vp 1 0), (4, vi .i64 0)] [] [] [] (by kernel_rfl) ?_
           refine SC.block ?_
           obtain ⟨o1, hi1, ho1⟩ := bind_inv hp
           clear hp
           refine SC.loop (fun n a w => ∃ (x_3 : Int), iter (fun s => wirelessref40_Check_l1 F b_1 s) n (x_3) = some o1 ∧ A 76 1 fx [(1, vp 1 0), (4, vi .i64 x_3)] [.rd 2 R_T_api_Subscription b_1.Subs, .blk 30 (C_api_Bond b_1 (.s 0))] a w) F (fun a w h => ⟨0, hi1, h.at (js := [.g 0, .g 1]) (by kernel_rfl)⟩) ?_
           rintro n1 a w ⟨x_3, hi1, h⟩
           obtain ⟨n1, q1, rfl, hp, hs1⟩ := iter_inv hi1
           replace hp : wirelessref40_Check_l1 F b_1 x_3 = some q1 := hp
           clear hi1
           refine h.go ?_
           refine SC.seq ?_
           refine SC.r tk [(1, vp 1 0), (4, vi .i64 x_3), (41, vb (decide (x_3 < (len b_1.Subs))))] [] [] [] (by kernel_rfl) ?_
           refine SC.if' rfl hp (fun hp => ?_) (fun hp => ?_)
           · refine SC.skipThen ?_
             refine SC.seq ?_
             refine SC.block ?_
             refine SC.seq ?_
             refine SC.reg ?_
             obtain ⟨x_4, e_x_4, hp⟩ := bind_inv hp
             refine SL.pre (pre_ix (i := 0) (iv := x_3) (sz := 2) (R := R_T_api_Subscription) (l := b_1.Subs) (by kernel_rfl) rfl e_x_4) ?_
             refine SL.sim tk 5 [(1, vp 1 0), (4, vi .i64 x_3), (48, .g (C_api_Subscription x_4))] [] [.el 2] [x_3] (by kernel_rfl) ?_
             refine SL.eff (e_alloc (E := 89) tk [ci .u16 0, ci .i64 0] (by kernel_rfl)) rfl (by kernel_rfl) ?_
             refine SL.sim tk 1 [(1, vp 1 0), (4, vi .i64 x_3), (5, vp 3 0)] [(3, 89, (C_api_Subscription x_4))] [] [] (by kernel_rfl) ?_
             refine SL.nilThen ?_
             refine SC.seq ?_
             refine SC.r tk [(1, vp 1 0), (4, vi .i64 x_3), (5, vp 3 0), (61, vb (((x_4.Handle == 0) || (decide (x_4.Bits < 0))) || (decide (x_4.Bits > 3))))] [] [] [] (by kernel_rfl) ?_
             refine SC.if' rfl hp (fun hp => ?_) (fun hp => ?_)
             · refine SC.r tk [(2, vi .i64 5)] [] [] [] (by kernel_rfl) ?_
               have ho := done_inv hp hs1
               replace hp := ho1
               try rw [ho] at hp
               obtain rfl := some_inv' hp
               exact SC.re (js := [.g 0]) tk (by kernel_rfl)
             · refine SC.skipThen ?_
               refine SC.cut (fun a w => ∃ (z_5 : Bool), wirelessref40_Check_j2 F x_3 z_5 = some q1 ∧ A 76 1 fx [(1, vp 1 0), (4, vi .i64 x_3), (75, vb z_5)] [.rd 2 R_T_api_Subscription b_1.Subs, .blk 30 (C_api_Bond b_1 (.s 0))] a w) ?_ ?_
               · refine SC.draw MO [true, true, true, true] (by kernel_rfl) fun kap_6 D_7 => ?_
                 refine SD.takes tk D_7 [] kn0 [0, 1, 2] [] [] [I, I, I, O, O, O, O, O, O, O, O, O, O, O] [(1, vp 1 0), (4, vi .i64 x_3), (5, vp 3 0), (64, vb (decide (x_3 > 0)))] rfl (by kernel_rfl) (by kernel_rfl) (by kernel_rfl) ?_
                 rcases Bool.eq_false_or_eq_true (decide (x_3 > 0)) with hg_8 | hg_8
                 · replace hp := if_t hp hg_8
                   refine SD.takes tk D_7 [(64, true)] (knS rfl hg_8 kn0) [3, 4, 5, 6, 7, 8] [] [] [I, I, I, I, I, I, I, I, I, O, O, O, O, O] [(1, vp 1 0), (4, vi .i64 x_3), (64, vb (decide (x_3 > 0))), (65, vp 3 0), (66, vi .u16 x_4.Handle), (67, vp 1 8), (68, vs 0), (69, vi .i64 x_3), (70, vi .i64 (w64 (x_3 - 1)))] rfl (by kernel_rfl) (by kernel_rfl) (by kernel_rfl) ?_
                   obtain ⟨x_9, e_x_9, hp⟩ := bind_inv hp
                   refine SD.pre (pre_ix (i := 0) (iv := w64 (x_3 - 1)) (sz := 2) (R := R_T_api_Subscription) (l := b_1.Subs) (by kernel_rfl) rfl e_x_9) ?_
                   refine SD.all1 (i := 9) (by kernel_rfl) ?_
                   refine SW.eff D_7 (i := 9) (v := vp 4 0) (bs' := [I, I, I, I, I, I, I, I, I, I, O, O, O, O]) rfl (.inr ⟨_, _, _, _, rfl, rfl, rfl, hg_8⟩) rfl (e_valE tk (.el 4) [w64 (x_3 - 1)] (by kernel_rfl)) (by kernel_rfl) rfl (by kernel_rfl) ?_
                   refine SD.norm (itsN := [.rd 2 R_T_api_Subscription b_1.Subs, .blk 30 (C_api_Bond b_1 (.s 0)), .elt (some (0, x_3)) false (C_api_Subscription x_4), .blk 89 (C_api_Subscription x_4), .elt (some (0, w64 (x_3 - 1))) false (C_api_Subscription x_9)]) (by kernel_rfl) ?_
                   refine SD.all1 (i := 10) (by kernel_rfl) ?_
                   refine SW.eff D_7 (i := 10) (v := vp 4 0) (bs' := [I, I, I, I, I, I, I, I, I, I, I, O, O, O]) rfl (.inr ⟨_, _, _, _, rfl, rfl, rfl, hg_8⟩) rfl (e_val tk (by kernel_rfl)) (by kernel_rfl) rfl (by kernel_rfl) ?_
                   refine SD.all1 (i := 11) (by kernel_rfl) ?_
                   refine SW.eff D_7 (i := 11) (v := vi .u16 x_9.Handle) (bs' := [I, I, I, I, I, I, I, I, I, I, I, I, O, O]) rfl (.inr ⟨_, _, _, _, rfl, rfl, rfl, hg_8⟩) rfl (e_val tk (by kernel_rfl)) (by kernel_rfl) rfl (by kernel_rfl) ?_
                   refine SD.norm (itsN := [.rd 2 R_T_api_Subscription b_1.Subs, .blk 30 (C_api_Bond b_1 (.s 0)), .elt (some (0, x_3)) false (C_api_Subscription x_4), .blk 89 (C_api_Subscription x_4), .elt (some (0, w64 (x_3 - 1))) false (C_api_Subscription x_9)]) (by kernel_rfl) ?_
                   refine SD.takes tk D_7 [(64, true)] (knS rfl hg_8 kn0) [12, 13] [] [] [I, I, I, I, I, I, I, I, I, I, I, I, I, I] [(1, vp 1 0), (4, vi .i64 x_3), (65, vp 3 0), (66, vi .u16 x_4.Handle), (67, vp 1 8), (68, vs 0), (69, vi .i64 x_3), (70, vi .i64 (w64 (x_3 - 1))), (71, vp 4 0), (72, vp 4 0), (73, vi .u16 x_9.Handle), (74, vb (decide (x_4.Handle ≤ x_9.Handle))), (75, vb (decide (x_4.Handle ≤ x_9.Handle)))] rfl (by kernel_rfl) (by kernel_rfl) (by kernel_rfl) ?_
                   refine SD.done (by kernel_rfl) fun a w h => ?_
                   exact ⟨decide (x_4.Handle ≤ x_9.Handle), hp, h.at (js := [.g 0, .g 1]) (by kernel_rfl)⟩
                 · replace hp := if_f hp hg_8
                   refine SD.takes tk D_7 [(64, false)] (knS rfl hg_8 kn0) [3, 4, 5, 6, 7, 8, 9, 10, 11, 12, 13] [] [] [I, I, I, I, I, I, I, I, I, I, I, I, I, I] [(1, vp 1 0), (4, vi .i64 x_3), (65, .u []), (66, .u []), (67, .u []), (68, .u []), (69, .u []), (70, .u []), (71, .u []), (72, .u []), (73, .u []), (74, .u []), (75, vb false)] rfl (by kernel_rfl) (by kernel_rfl) (by kernel_rfl) ?_
                   refine SD.done (by kernel_rfl) fun a w h => ?_
                   exact ⟨false, hp, h.at (js := [.g 0, .g 1]) (by kernel_rfl)⟩
               · rintro a w ⟨z_5, hp, h⟩
                 refine h.go ?_
                 refine SC.if' rfl hp (fun hp => ?_) (fun hp => ?_)
                 · refine SC.r tk [(2, vi .i64 13)] [] [] [] (by kernel_rfl) ?_
                   have ho := done_inv hp hs1
                   replace hp := ho1
                   try rw [ho] at hp
                   obtain rfl := some_inv' hp
                   exact SC.re (js := [.g 0]) tk (by kernel_rfl)
                 · refine SC.skipThen ?_
                   refine SC.reg ?_
                   refine SL.sim tk 3 [(1, vp 1 0), (4, vi .i64 (w64 (x_3 + 1)))] [] [] [] (by kernel_rfl) ?_
                   refine SL.nilJ fun a w h => ?_
                   exact ⟨n1, Nat.lt_succ_self _, w64 (x_3 + 1), next_inv hp hs1, h.at (js := [.g 0, .g 1]) (by kernel_rfl)⟩
           · refine SC.exitJ rfl fun a w h => ?_
             have ho := done_inv hp hs1
             replace hp := ho1
             try rw [ho] at hp
             exact ⟨hp, h.at (js := [.g 0]) (by kernel_rfl)⟩
         · rintro a w ⟨hp, h⟩
           refine h.go ?_
           refine SC.r tk [(2, vi .i64 0)] [] [] [] (by kernel_rfl) ?_
           obtain rfl := some_inv' hp
           exact SC.re (js := [.g 0]) tk (by kernel_rfl)

theorem ok_wirelessref02_Num (F : Nat) (size_1 : Int) (v_2 : Int) (r : (List Int)) (hp : wirelessref02_Num F size_1 v_2 = some r) : Spec Tryd.prog 43 [vi .i64 size_1, vi .u64 v_2] [] (vs 0) [.rd 1 R8 r] := by
 refine Spec.enter Tryd.func43 rfl Tryd.ntmps43 rfl rfl fun fx => ?_
 refine SC.r tk [(0, vi .i64 size_1), (1, vi .u64 v_2)] [] [] [] (by kernel_rfl) ?_
 refine SC.seq ?_
 refine SC.reg ?_
 refine SL.eff (e_lit (sz := 1) (E := 5) (R := R8) (by_ := 1) tk [] ([] : (List Int)) (by kernel_rfl) trivial rfl (by kernel_rfl) (by kernel_rfl)) rfl (by kernel_rfl) ?_
 refine SL.sim tk 1 [(0, vi .i64 size_1), (1, vi .u64 v_2), (5, vs 0)] [] [] [] (by kernel_rfl) ?_
 refine SL.nilThen ?_
 refine SC.cut (fun a w => ∃ (l_3 : (List Int)), wirelessref02_Num_j1 F l_3 = some r ∧ A 22 0 fx [(5, vs 0)] [.own 1 5 R8 l_3] a w) ?_ ?_
 · refine SC.r tk [(0, vi .i64 size_1), (1, vi .u64 v_2), (5, vs 0), (6, vi .i64 0)] [] [] [] (by kernel_rfl) ?_
   refine SC.block ?_
   obtain ⟨o1, hi1, ho1⟩ := bind_inv hp
   clear hp
   refine SC.loop (fun n a w => ∃ (x_4 : Int) (l_5 : (List Int)) (x_6 : Int), iter (fun s => wirelessref02_Num_l1 F size_1 s.1 s.2.1 s.2.2) n (x_4, l_5, x_6) = some o1 ∧ A 22 0 fx [(0, vi .i64 size_1), (1, vi .u64 x_4), (5, vs 0), (6, vi .i64 x_6)] [.own 1 5 R8 l_5] a w) F (fun a w h => ⟨v_2, ([] : (List Int)), 0, hi1, h.at (js := [.g 0]) (by kernel_rfl)⟩) ?_
   rintro n1 a w ⟨x_4, l_5, x_6, hi1, h⟩
   obtain ⟨n1, q1, rfl, hp, hs1⟩ := iter_inv hi1
   replace hp : wirelessref02_Num_l1 F size_1 x_4 l_5 x_6 = some q1 := hp
   clear hi1
   refine h.go ?_
   refine SC.seq ?_
   refine SC.r tk [(0, vi .i64 size_1), (1, vi .u64 x_4), (5, vs 0), (6, vi .i64 x_6), (10, vb (decide (x_6 < size_1)))] [] [] [] (by kernel_rfl) ?_
   refine SC.if' rfl hp (fun hp => ?_) (fun hp => ?_)
   · refine SC.skipThen ?_
     refine SC.seq ?_
     refine SC.block ?_
     refine SC.seq ?_
     refine SC.reg ?_
     refine SL.sim tk 4 [(0, vi .i64 size_1), (1, vi .u64 x_4), (5, vs 0), (6, vi .i64 x_6), (13, vs 0), (16, vi .u8 (wu8 (remp x_4 256)))] [] [.bin .rem .u64 x_4 256 (remp x_4 256) (by kernel_rfl)] [x_4, 256] (by kernel_rfl) ?_
     refine SL.eff (e_lit (sz := 1) (E := 5) (R := R8) (by_ := 1) tk [[ci .u8 (wu8 (remp x_4 256))]] [wu8 (remp x_4 256)] (by kernel_rfl) ⟨Clo.int, trivial⟩ rfl (by kernel_rfl) (by kernel_rfl)) rfl (by kernel_rfl) ?_
     obtain ⟨l_7, e_l_7, hp⟩ := bind_inv hp
     refine SL.eff (e_app (i := 0) (l := l_5) (sz := 1) (E := 5) (R := R8) (by_ := 1) (m := [wu8 (remp x_4 256)]) tk rfl (by kernel_rfl) rfl (.o 5 (by kernel_rfl)) e_l_7 (by kernel_rfl)) rfl (by kernel_rfl) ?_
     refine SL.sim tk 1 [(0, vi .i64 size_1), (1, vi .u64 x_4), (5, vs 2), (6, vi .i64 x_6)] [] [] [] (by kernel_rfl) ?_
     refine SL.nilThen ?_
     refine SC.reg ?_
     refine SL.sim tk 3 [(0, vi .i64 size_1), (1, vi .u64 (quop .u64 x_4 256)), (5, vs 2), (6, vi .i64 x_6)] [] [.bin .quo .u64 x_4 256 (quop .u64 x_4 256) (by kernel_rfl)] [x_4, 256] (by kernel_rfl) ?_
     refine SL.nilThen ?_
     refine SC.reg ?_
     refine SL.sim tk 3 [(0, vi .i64 size_1), (1, vi .u64 (quop .u64 x_4 256)), (5, vs 2), (6, vi .i64 (w64 (x_6 + 1)))] [] [] [] (by kernel_rfl) ?_
     refine SL.nilJ fun a w h => ?_
     exact ⟨n1, Nat.lt_succ_self _, (quop .u64 x_4 256), l_7, w64 (x_6 + 1), next_inv hp hs1, h.at (js := [.g 2]) (by kernel_rfl)⟩
   · refine SC.exitJ rfl fun a w h => ?_
     have ho := done_inv hp hs1
     replace hp := ho1
     try rw [ho] at hp
     exact ⟨l_5, hp, h.at (js := [.g 0]) (by kernel_rfl)⟩
 · rintro a w ⟨l_3, hp, h⟩
   refine h.go ?_
   refine SC.r tk [(4, vs 0)] [] [] [] (by kernel_rfl) ?_
   obtain rfl := some_inv' hp
   exact SC.re (js := [.z 0]) tk (by kernel_rfl)

theorem ok_wirelessref08_Encode (F : Nat) (a_1 : T_api_Address) (r : (List Int) × Int) (hp : wirelessref08_Encode F a_1 = some r) : Spec Tryd.prog 42 [.g (C_api_Address a_1)] [] (.u [.inl (.s 0), .inl (ci .i64 r.2)]) [.own 1 5 R8 r.1] := by
 refine Spec.enter Tryd.func42 rfl Tryd.ntmps42 rfl rfl fun fx => ?_
 refine SC.seq ?_
 refine SC.reg ?_
 refine SL.eff (e_box (E := 24) (C_api_Address a_1) (by kernel_rfl)) rfl (by kernel_rfl) ?_
 refine SL.sim tk 2 [(1, vp 0 0)] [] [] [] (by kernel_rfl) ?_
 refine SL.nilThen ?_
 refine SC.seq ?_
 refine SC.seq ?_
 refine SC.reg ?_
 refine SL.sim tk 1 [(1, vp 0 0), (5, .g (C_api_Address a_1))] [] [] [] (by kernel_rfl) ?_
 obtain ⟨x_2, e_x_2, hp⟩ := bind_inv hp
 refine SL.eff (e_c Tryd.call49 (ok_wirelessref08_Check F a_1 _ e_x_2) [] [.g (C_api_Address a_1)] (vi .i64 x_2) (by kernel_rfl) (.inl rfl)) rfl (by kernel_rfl) ?_
 refine SL.sim tk 1 [(1, vp 0 0), (4, vi .i64 x_2)] [] [] [] (by kernel_rfl) ?_
 refine SL.nilThen ?_
 refine SC.r tk [(1, vp 0 0), (4, vi .i64 x_2), (8, vb (x_2 != 0))] [] [] [] (by kernel_rfl) ?_
 refine SC.if' rfl hp (fun hp => ?_) (fun hp => ?_)
 · refine SC.r tk [(2, vn), (3, vi .i64 x_2)] [] [] [] (by kernel_rfl) ?_
   obtain rfl := some_inv' hp
   exact SC.re (js := [.n]) tk (by kernel_rfl)
 · refine SC.skipThen ?_
   refine SC.cut (fun a w => ∃ (l_3 : (List Int)), wirelessref08_Encode_j1 F l_3 = some r ∧ A 18 0 fx [(2, vs 0), (3, vi .i64 0)] [.own 1 5 R8 l_3] a w) ?_ ?_
   · refine SC.draw MO [true] (by kernel_rfl) fun kap_4 D_5 => ?_
     refine SD.takes tk D_5 [] kn0 [0, 1, 2, 4, 5] [] [] [I, I, I, O, I, I, O, O, O, O] [(12, vi .u8 (wu8 a_1.Kind)), (15, vi .u64 a_1.Bits)] rfl (by kernel_rfl) (by kernel_rfl) (by kernel_rfl) ?_
     obtain ⟨x_486, e_x_486, hp⟩ := bind_inv hp
     obtain ⟨l_566, e_l_566, hp⟩ := bind_inv hp
     refine SD.lay 0 [I, I, I, I, I, I, I, I, I, I] [(2, vs 3), (3, vi .i64 0)] [.blk 24 (C_api_Address a_1), .gone, .gone, .own 1 5 R8 l_566] ?_ (fun c_5_0 => ?_)
     · refine SD.done (by kernel_rfl) fun a w h => ?_
       exact ⟨l_566, hp, h.at (js := [.g 3]) (by kernel_rfl)⟩
     · refine SD.lay 3 [I, I, I, I, I, I, I, O, O, O] [(13, vs 1), (16, vs 2)] [.blk 24 (C_api_Address a_1), .own 1 5 R8 [wu8 a_1.Kind], .rd 1 R8 x_486] ?_ (fun c_5_1 => ?_)
       · refine SD.all1 (i := 7) (by kernel_rfl) ?_
         refine SW.eff D_5 (i := 7) (bs' := [I, I, I, I, I, I, I, I, O, O]) rfl (.inl rfl) rfl (e_app (i := 1) (l := [wu8 a_1.Kind]) (sz := 1) (E := 5) (R := R8) (by_ := 1) (m := x_486) tk rfl (by kernel_rfl) rfl (.r (by kernel_rfl)) e_l_566 (by kernel_rfl)) (by kernel_rfl) rfl (by kernel_rfl) ?_
         refine SD.takes tk D_5 [] kn0 [8, 9] [] [] [I, I, I, I, I, I, I, I, I, I] [(2, vs 3), (3, vi .i64 0)] rfl (by kernel_rfl) (by kernel_rfl) (by kernel_rfl) ?_
         exact SD.vie D_5 [.g 0, .n, .n, .g 3] c_5_0 (by kernel_rfl)
       · refine SD.lay 4 [I, I, I, I, I, I, O, O, O, O] [(13, vs 1), (15, vi .u64 a_1.Bits)] [.blk 24 (C_api_Address a_1), .own 1 5 R8 [wu8 a_1.Kind]] ?_ (fun c_5_2 => ?_)
         · refine SD.all1 (i := 6) (by kernel_rfl) ?_
           refine SW.eff D_5 (i := 6) (bs' := [I, I, I, I, I, I, I, O, O, O]) rfl (.inl rfl) rfl (e_c Tryd.call43 (ok_wirelessref02_Num F 6 a_1.Bits _ e_x_486) [] [vi .i64 6, vi .u64 a_1.Bits] (vs 2) (by kernel_rfl) (.inl rfl)) (by kernel_rfl) rfl (by kernel_rfl) ?_
           exact SD.vie D_5 [.g 0, .g 1, .g 2] c_5_1 (by kernel_rfl)
         · refine SD.lay 4 [I, I, I, O, I, I, I, O, O, O] [(12, vi .u8 (wu8 a_1.Kind)), (16, vs 1)] [.blk 24 (C_api_Address a_1), .rd 1 R8 x_486] ?_ (fun c_5_3 => ?_)
           · refine SD.all1 (i := 3) (by kernel_rfl) ?_
             refine SW.eff D_5 (i := 3) (bs' := [I, I, I, I, I, I, I, O, O, O]) rfl (.inl rfl) rfl (e_lit (sz := 1) (E := 5) (R := R8) (by_ := 1) tk [[ci .u8 (wu8 a_1.Kind)]] [wu8 a_1.Kind] (by kernel_rfl) ⟨Clo.int, trivial⟩ rfl (by kernel_rfl) (by kernel_rfl)) (by kernel_rfl) rfl (by kernel_rfl) ?_
             exact SD.vie D_5 [.g 0, .g 2, .g 1] c_5_1 (by kernel_rfl)
           · refine SD.all2 (i := 3) (j := 6) (by kernel_rfl) ?_ ?_
             · refine SW.eff D_5 (i := 3) (bs' := [I, I, I, I, I, I, O, O, O, O]) rfl (.inl rfl) rfl (e_lit (sz := 1) (E := 5) (R := R8) (by_ := 1) tk [[ci .u8 (wu8 a_1.Kind)]] [wu8 a_1.Kind] (by kernel_rfl) ⟨Clo.int, trivial⟩ rfl (by kernel_rfl) (by kernel_rfl)) (by kernel_rfl) rfl (by kernel_rfl) ?_
               refine SD.norm (itsN := [.blk 24 (C_api_Address a_1), .own 1 5 R8 [wu8 a_1.Kind]]) (by kernel_rfl) ?_
               exact SD.vie D_5 [.g 0, .g 1] c_5_2 (by kernel_rfl)
             · refine SW.eff D_5 (i := 6) (bs' := [I, I, I, O, I, I, I, O, O, O]) rfl (.inl rfl) rfl (e_c Tryd.call43 (ok_wirelessref02_Num F 6 a_1.Bits _ e_x_486) [] [vi .i64 6, vi .u64 a_1.Bits] (vs 1) (by kernel_rfl) (.inl rfl)) (by kernel_rfl) rfl (by kernel_rfl) ?_
               refine SD.norm (itsN := [.blk 24 (C_api_Address a_1), .rd 1 R8 x_486]) (by kernel_rfl) ?_
               exact SD.vie D_5 [.g 0, .g 1] c_5_3 (by kernel_rfl)
   · rintro a w ⟨l_3, hp, h⟩
     refine h.go ?_
     obtain rfl := some_inv' hp
     exact SC.re (js := [.g 0]) tk (by kernel_rfl)

theorem ok_wirelessref40_Encode (F : Nat) (b_1 : T_api_Bond) (r : (List Int) × Int) (hp : wirelessref40_Encode F b_1 = some r) : Spec Tryd.prog 11 [.g (C_api_Bond b_1 (.s 0))] [.rd 2 R_T_api_Subscription b_1.Subs] (.u [.inl (.s 1), .inl (ci .i64 r.2)]) [.gone, .rd 1 R8 r.1] := by
 refine Spec.enter Tryd.func11 rfl Tryd.ntmps11 rfl rfl fun fx => ?_
 refine SC.seq ?_
 refine SC.reg ?_
 refine SL.eff (e_box (E := 30) (C_api_Bond b_1 (.s 0)) (by kernel_rfl)) rfl (by kernel_rfl) ?_
 refine SL.sim tk 2 [(1, vp 1 0)] [] [] [] (by kernel_rfl) ?_
 refine SL.nilThen ?_
 refine SC.seq ?_
 refine SC.reg ?_
 refine SL.sim tk 1 [(1, vp 1 0), (9, .g (C_api_Bond b_1 (.s 0)))] [] [] [] (by kernel_rfl) ?_
 obtain ⟨x_2, e_x_2, hp⟩ := bind_inv hp
 refine SL.eff (e_c Tryd.call15 (ok_wirelessref40_Check F b_1 _ e_x_2) [.g 0] [.g (C_api_Bond b_1 (.s 0))] (vi .i64 x_2) (by kernel_rfl) (.inl rfl)) rfl (by kernel_rfl) ?_
 refine SL.sim tk 1 [(1, vp 1 0), (4, vi .i64 x_2)] [] [] [] (by kernel_rfl) ?_
 refine SL.nilThen ?_
 refine SC.seq ?_
 refine SC.r tk [(1, vp 1 0), (4, vi .i64 x_2), (12, vb (x_2 != 0))] [] [] [] (by kernel_rfl) ?_
 refine SC.if' rfl hp (fun hp => ?_) (fun hp => ?_)
 · refine SC.r tk [(2, vn), (3, vi .i64 x_2)] [] [] [] (by kernel_rfl) ?_
   obtain rfl := some_inv' hp
   exact SC.re (js := [.g 0, .n]) tk (by kernel_rfl)
 · refine SC.skipThen ?_
   refine SC.seq ?_
   refine SC.reg ?_
   refine SL.sim tk 3 [(1, vp 1 0), (17, .g (C_api_Address b_1.Peer.Address))] [] [] [] (by kernel_rfl) ?_
   obtain ⟨x_3, e_x_3, hp⟩ := bind_inv hp
   refine SL.eff (e_c Tryd.call42 (ok_wirelessref08_Encode F b_1.Peer.Address _ e_x_3) [] [.g (C_api_Address b_1.Peer.Address)] (.u [.inl (.s 2), .inl (ci .i64 x_3.2)]) (by kernel_rfl) (.inl rfl)) rfl (by kernel_rfl) ?_
   refine SL.norm (itsN := [.rd 2 R_T_api_Subscription b_1.Subs, .blk 30 (C_api_Bond b_1 (.s 0)), .own 1 5 R8 x_3.1]) (by kernel_rfl) ?_
   refine SL.sim tk 5 [(1, vp 1 0), (5, vs 2)] [] [] [] (by kernel_rfl) ?_
   refine SL.nilThen ?_
   refine SC.cut (fun a w => ∃ (l_4 : (List Int)), wirelessref40_Encode_j1 F b_1 l_4 = some r ∧ A 90 1 fx [(1, vp 1 0), (5, vs 2)] [.rd 2 R_T_api_Subscription b_1.Subs, .blk 30 (C_api_Bond b_1 (.s 0)), .own 1 5 R8 l_4] a w) ?_ ?_
   · refine SC.draw MO [true, true, false] (by kernel_rfl) fun kap_1703 D_1704 => ?_
     refine SD.takes tk D_1704 [] kn0 [0, 1, 2, 3, 6, 7, 10, 11] [] [] [I, I, I, I, O, O, I, I, O, O, I, I, O, O, O] [(1, vp 1 0), (5, vs 2), (21, vs 2), (24, vi .u64 b_1.Peer.IRK), (28, vi .u64 b_1.LTK), (32, vi .u64 b_1.Mark)] rfl (by kernel_rfl) (by kernel_rfl) (by kernel_rfl) ?_
     obtain ⟨x_1705, e_x_1705, hp⟩ := bind_inv hp
     refine SD.all1 (i := 4) (by kernel_rfl) ?_
     refine SW.eff D_1704 (i := 4) (bs' := [I, I, I, I, I, O, I, I, O, O, I, I, O, O, O]) rfl (.inl rfl) rfl (e_c Tryd.call43 (ok_wirelessref02_Num F 8 b_1.Peer.IRK _ e_x_1705) [] [vi .i64 8, vi .u64 b_1.Peer.IRK] (vs 3) (by kernel_rfl) (.inl rfl)) (by kernel_rfl) rfl (by kernel_rfl) ?_
     obtain ⟨l_1706, e_l_1706, hp⟩ := bind_inv hp
     refine SD.all1 (i := 5) (by kernel_rfl) ?_
     refine SW.eff D_1704 (i := 5) (bs' := [I, I, I, I, I, I, I, I, O, O, I, I, O, O, O]) rfl (.inl rfl) rfl (e_app (i := 2) (l := x_3.1) (sz := 1) (E := 5) (R := R8) (by_ := 1) (m := x_1705) tk rfl (by kernel_rfl) rfl (.r (by kernel_rfl)) e_l_1706 (by kernel_rfl)) (by kernel_rfl) rfl (by kernel_rfl) ?_
     refine SD.norm (itsN := [.rd 2 R_T_api_Subscription b_1.Subs, .blk 30 (C_api_Bond b_1 (.s 0)), .gone, .rd 1 R8 x_1705, .own 1 5 R8 l_1706]) (by kernel_rfl) ?_
     obtain ⟨x_1707, e_x_1707, hp⟩ := bind_inv hp
     refine SD.all1 (i := 8) (by kernel_rfl) ?_
     refine SW.eff D_1704 (i := 8) (bs' := [I, I, I, I, I, I, I, I, I, O, I, I, O, O, O]) rfl (.inl rfl) rfl (e_c Tryd.call43 (ok_wirelessref02_Num F 8 b_1.LTK _ e_x_1707) [] [vi .i64 8, vi .u64 b_1.LTK] (vs 5) (by kernel_rfl) (.inl rfl)) (by kernel_rfl) rfl (by kernel_rfl) ?_
     obtain ⟨l_1708, e_l_1708, hp⟩ := bind_inv hp
     refine SD.all1 (i := 9) (by kernel_rfl) ?_
     refine SW.eff D_1704 (i := 9) (bs' := [I, I, I, I, I, I, I, I, I, I, I, I, O, O, O]) rfl (.inl rfl) rfl (e_app (i := 4) (l := l_1706) (sz := 1) (E := 5) (R := R8) (by_ := 1) (m := x_1707) tk rfl (by kernel_rfl) rfl (.r (by kernel_rfl)) e_l_1708 (by kernel_rfl)) (by kernel_rfl) rfl (by kernel_rfl) ?_
     refine SD.norm (itsN := [.rd 2 R_T_api_Subscription b_1.Subs, .blk 30 (C_api_Bond b_1 (.s 0)), .gone, .rd 1 R8 x_1705, .gone, .rd 1 R8 x_1707, .own 1 5 R8 l_1708]) (by kernel_rfl) ?_
     obtain ⟨x_1709, e_x_1709, hp⟩ := bind_inv hp
     refine SD.all1 (i := 12) (by kernel_rfl) ?_
     refine SW.eff D_1704 (i := 12) (bs' := [I, I, I, I, I, I, I, I, I, I, I, I, I, O, O]) rfl (.inl rfl) rfl (e_c Tryd.call43 (ok_wirelessref02_Num F 8 b_1.Mark _ e_x_1709) [] [vi .i64 8, vi .u64 b_1.Mark] (vs 7) (by kernel_rfl) (.inl rfl)) (by kernel_rfl) rfl (by kernel_rfl) ?_
     obtain ⟨l_1710, e_l_1710, hp⟩ := bind_inv hp
     refine SD.all1 (i := 13) (by kernel_rfl) ?_
     refine SW.eff D_1704 (i := 13) (bs' := [I, I, I, I, I, I, I, I, I, I, I, I, I, I, O]) rfl (.inl rfl) rfl (e_app (i := 6) (l := l_1708) (sz := 1) (E := 5) (R := R8) (by_ := 1) (m := x_1709) tk rfl (by kernel_rfl) rfl (.r (by kernel_rfl)) e_l_1710 (by kernel_rfl)) (by kernel_rfl) rfl (by kernel_rfl) ?_
     refine SD.norm (itsN := [.rd 2 R_T_api_Subscription b_1.Subs, .blk 30 (C_api_Bond b_1 (.s 0)), .gone, .rd 1 R8 x_1705, .gone, .rd 1 R8 x_1707, .gone, .rd 1 R8 x_1709, .own 1 5 R8 l_1710]) (by kernel_rfl) ?_
     refine SD.takes tk D_1704 [] kn0 [14] [] [] [I, I, I, I, I, I, I, I, I, I, I, I, I, I, I] [(1, vp 1 0), (5, vs 8)] rfl (by kernel_rfl) (by kernel_rfl) (by kernel_rfl) ?_
     refine SD.done (by kernel_rfl) fun a w h => ?_
     exact ⟨l_1710, hp, h.at (js := [.g 0, .g 1, .g 8]) (by kernel_rfl)⟩
   · rintro a w ⟨l_4, hp, h⟩
     refine h.go ?_
     refine SC.r tk [(1, vp 1 0), (5, vs 2), (7, vi .u8 0)] [] [] [] (by kernel_rfl) ?_
     refine SC.cut (fun a w => ∃ (x_5 : Int), wirelessref40_Encode_j2 F b_1 l_4 x_5 = some r ∧ A 90 1 fx [(1, vp 1 0), (5, vs 2), (7, vi .u8 x_5)] [.rd 2 R_T_api_Subscription b_1.Subs, .blk 30 (C_api_Bond b_1 (.s 0)), .own 1 5 R8 l_4] a w) ?_ ?_
     · refine SC.r tk [(1, vp 1 0), (5, vs 2), (7, vi .u8 0), (36, vb b_1.Strong)] [] [] [] (by kernel_rfl) ?_
       refine SC.if' rfl hp (fun hp => ?_) (fun hp => ?_)
       · refine SC.reg ?_
         refine SL.sim tk 3 [(1, vp 1 0), (5, vs 2), (7, vi .u8 1)] [] [] [] (by kernel_rfl) ?_
         refine SL.nilJ fun a w h => ?_
         exact ⟨1, hp, h.at (js := [.g 0, .g 1, .g 2]) (by kernel_rfl)⟩
       · refine SC.skipJ fun a w h => ?_
         exact ⟨0, hp, h.at (js := [.g 0, .g 1, .g 2]) (by kernel_rfl)⟩
     · rintro a w ⟨x_5, hp, h⟩
       refine h.go ?_
       refine SC.cut (fun a w => ∃ (x_6 : Int), wirelessref40_Encode_j3 F b_1 l_4 x_6 = some r ∧ A 90 1 fx [(1, vp 1 0), (5, vs 2), (7, vi .u8 x_6)] [.rd 2 R_T_api_Subscription b_1.Subs, .blk 30 (C_api_Bond b_1 (.s 0)), .own 1 5 R8 l_4] a w) ?_ ?_
       · refine SC.r tk [(1, vp 1 0), (5, vs 2), (7, vi .u8 x_5), (40, vb b_1.Aware)] [] [] [] (by kernel_rfl) ?_
         refine SC.if' rfl hp (fun hp => ?_) (fun hp => ?_)
         · refine SC.reg ?_
           refine SL.sim tk 3 [(1, vp 1 0), (5, vs 2), (7, vi .u8 (wu8 (x_5 + 2)))] [] [] [] (by kernel_rfl) ?_
           refine SL.nilJ fun a w h => ?_
           exact ⟨wu8 (x_5 + 2), hp, h.at (js := [.g 0, .g 1, .g 2]) (by kernel_rfl)⟩
         · refine SC.skipJ fun a w h => ?_
           exact ⟨x_5, hp, h.at (js := [.g 0, .g 1, .g 2]) (by kernel_rfl)⟩
       · rintro a w ⟨x_6, hp, h⟩
         refine h.go ?_
         refine SC.cut (fun a w => ∃ (l_7 : (List Int)), wirelessref40_Encode_j4 F b_1 l_7 = some r ∧ A 90 1 fx [(1, vp 1 0), (5, vs 2)] [.rd 2 R_T_api_Subscription b_1.Subs, .blk 30 (C_api_Bond b_1 (.s 0)), .own 1 5 R8 l_7] a w) ?_ ?_
         · refine SC.draw MO [true, true, false] (by kernel_rfl) fun kap_1696 D_1697 => ?_
           refine SD.takes tk D_1697 [] kn0 [0, 1, 4, 5, 8, 9, 10] [] [] [I, I, O, O, I, I, O, O, I, I, I, O, O, O] [(1, vp 1 0), (5, vs 2), (43, vs 2), (44, vi .u8 x_6), (48, vi .u64 b_1.Hash), (53, vi .u64 (wu64 b_1.Used))] rfl (by kernel_rfl) (by kernel_rfl) (by kernel_rfl) ?_
           refine SD.all1 (i := 2) (by kernel_rfl) ?_
           refine SW.eff D_1697 (i := 2) (bs' := [I, I, I, O, I, I, O, O, I, I, I, O, O, O]) rfl (.inl rfl) rfl (e_lit (sz := 1) (E := 5) (R := R8) (by_ := 1) tk [[ci .u8 x_6]] [x_6] (by kernel_rfl) ⟨Clo.int, trivial⟩ rfl (by kernel_rfl) (by kernel_rfl)) (by kernel_rfl) rfl (by kernel_rfl) ?_
           obtain ⟨l_1698, e_l_1698, hp⟩ := bind_inv hp
           refine SD.all1 (i := 3) (by kernel_rfl) ?_
           refine SW.eff D_1697 (i := 3) (bs' := [I, I, I, I, I, I, O, O, I, I, I, O, O, O]) rfl (.inl rfl) rfl (e_app (i := 2) (l := l_4) (sz := 1) (E := 5) (R := R8) (by_ := 1) (m := [x_6]) tk rfl (by kernel_rfl) rfl (.o 5 (by kernel_rfl)) e_l_1698 (by kernel_rfl)) (by kernel_rfl) rfl (by kernel_rfl) ?_
           refine SD.norm (itsN := [.rd 2 R_T_api_Subscription b_1.Subs, .blk 30 (C_api_Bond b_1 (.s 0)), .gone, .own 1 5 R8 [x_6], .own 1 5 R8 l_1698]) (by kernel_rfl) ?_
           obtain ⟨x_1699, e_x_1699, hp⟩ := bind_inv hp
           refine SD.all1 (i := 6) (by kernel_rfl) ?_
           refine SW.eff D_1697 (i := 6) (bs' := [I, I, I, I, I, I, I, O, I, I, I, O, O, O]) rfl (.inl rfl) rfl (e_c Tryd.call43 (ok_wirelessref02_Num F 8 b_1.Hash _ e_x_1699) [] [vi .i64 8, vi .u64 b_1.Hash] (vs 5) (by kernel_rfl) (.inl rfl)) (by kernel_rfl) rfl (by kernel_rfl) ?_
           obtain ⟨l_1700, e_l_1700, hp⟩ := bind_inv hp
           refine SD.all1 (i := 7) (by kernel_rfl) ?_
           refine SW.eff D_1697 (i := 7) (bs' := [I, I, I, I, I, I, I, I, I, I, I, O, O, O]) rfl (.inl rfl) rfl (e_app (i := 4) (l := l_1698) (sz := 1) (E := 5) (R := R8) (by_ := 1) (m := x_1699) tk rfl (by kernel_rfl) rfl (.r (by kernel_rfl)) e_l_1700 (by kernel_rfl)) (by kernel_rfl) rfl (by kernel_rfl) ?_
           refine SD.norm (itsN := [.rd 2 R_T_api_Subscription b_1.Subs, .blk 30 (C_api_Bond b_1 (.s 0)), .gone, .own 1 5 R8 [x_6], .gone, .rd 1 R8 x_1699, .own 1 5 R8 l_1700]) (by kernel_rfl) ?_
           obtain ⟨x_1701, e_x_1701, hp⟩ := bind_inv hp
           refine SD.all1 (i := 11) (by kernel_rfl) ?_
           refine SW.eff D_1697 (i := 11) (bs' := [I, I, I, I, I, I, I, I, I, I, I, I, O, O]) rfl (.inl rfl) rfl (e_c Tryd.call43 (ok_wirelessref02_Num F 4 (wu64 b_1.Used) _ e_x_1701) [] [vi .i64 4, vi .u64 (wu64 b_1.Used)] (vs 7) (by kernel_rfl) (.inl rfl)) (by kernel_rfl) rfl (by kernel_rfl) ?_
           obtain ⟨l_1702, e_l_1702, hp⟩ := bind_inv hp
           refine SD.all1 (i := 12) (by kernel_rfl) ?_
           refine SW.eff D_1697 (i := 12) (bs' := [I, I, I, I, I, I, I, I, I, I, I, I, I, O]) rfl (.inl rfl) rfl (e_app (i := 6) (l := l_1700) (sz := 1) (E := 5) (R := R8) (by_ := 1) (m := x_1701) tk rfl (by kernel_rfl) rfl (.r (by kernel_rfl)) e_l_1702 (by kernel_rfl)) (by kernel_rfl) rfl (by kernel_rfl) ?_
           refine SD.norm (itsN := [.rd 2 R_T_api_Subscription b_1.Subs, .blk 30 (C_api_Bond b_1 (.s 0)), .gone, .own 1 5 R8 [x_6], .gone, .rd 1 R8 x_1699, .gone, .rd 1 R8 x_1701, .own 1 5 R8 l_1702]) (by kernel_rfl) ?_
           refine SD.takes tk D_1697 [] kn0 [13] [] [] [I, I, I, I, I, I, I, I, I, I, I, I, I, I] [(1, vp 1 0), (5, vs 8)] rfl (by kernel_rfl) (by kernel_rfl) (by kernel_rfl) ?_
           refine SD.done (by kernel_rfl) fun a w h => ?_
           exact ⟨l_1702, hp, h.at (js := [.g 0, .g 1, .g 8]) (by kernel_rfl)⟩
         · rintro a w ⟨l_7, hp, h⟩
           refine h.go ?_
           refine SC.seq ?_
           refine SC.reg ?_
           refine SL.sim tk 5 [(1, vp 1 0), (5, vs 2), (56, vs 2), (60, vi .u8 (wu8 (len b_1.Subs)))] [] [] [] (by kernel_rfl) ?_
           refine SL.eff (e_lit (sz := 1) (E := 5) (R := R8) (by_ := 1) tk [[ci .u8 (wu8 (len b_1.Subs))]] [wu8 (len b_1.Subs)] (by kernel_rfl) ⟨Clo.int, trivial⟩ rfl (by kernel_rfl) (by kernel_rfl)) rfl (by kernel_rfl) ?_
           obtain ⟨l_8, e_l_8, hp⟩ := bind_inv hp
           refine SL.eff (e_app (i := 2) (l := l_7) (sz := 1) (E := 5) (R := R8) (by_ := 1) (m := [wu8 (len b_1.Subs)]) tk rfl (by kernel_rfl) rfl (.o 5 (by kernel_rfl)) e_l_8 (by kernel_rfl)) rfl (by kernel_rfl) ?_
           refine SL.sim tk 1 [(1, vp 1 0), (5, vs 4)] [] [] [] (by kernel_rfl) ?_
           refine SL.nilThen ?_
           refine SC.cut (fun a w => ∃ (l_9 : (List Int)), wirelessref40_Encode_j5 F l_9 = some r ∧ A 90 1 fx [(5, vs 1)] [.gone, .own 1 5 R8 l_9] a w) ?_ ?_
           · refine SC.r tk [(1, vp 1 0), (5, vs 4), (8, vi .i64 0)] [] [] [] (by kernel_rfl) ?_
             refine SC.block ?_
             obtain ⟨o1, hi1, ho1⟩ := bind_inv hp
             clear hp
             refine SC.loop (fun n a w => ∃ (l_10 : (List Int)) (x_11 : Int), iter (fun s => wirelessref40_Encode_l1 F b_1 s.1 s.2) n (l_10, x_11) = some o1 ∧ A 90 1 fx [(1, vp 1 0), (5, vs 2), (8, vi .i64 x_11)] [.rd 2 R_T_api_Subscription b_1.Subs, .blk 30 (C_api_Bond b_1 (.s 0)), .own 1 5 R8 l_10] a w) F (fun a w h => ⟨l_8, 0, hi1, h.at (js := [.g 0, .g 1, .g 4]) (by kernel_rfl)⟩) ?_
             rintro n1 a w ⟨l_10, x_11, hi1, h⟩
             obtain ⟨n1, q1, rfl, hp, hs1⟩ := iter_inv hi1
             replace hp : wirelessref40_Encode_l1 F b_1 l_10 x_11 = some q1 := hp
             clear hi1
             refine h.go ?_
             refine SC.seq ?_
             refine SC.r tk [(1, vp 1 0), (5, vs 2), (8, vi .i64 x_11), (67, vb (decide (x_11 < (len b_1.Subs))))] [] [] [] (by kernel_rfl) ?_
             refine SC.if' rfl hp (fun hp => ?_) (fun hp => ?_)
             · refine SC.skipThen ?_
               refine SC.seq ?_
               refine SC.block ?_
               obtain ⟨x_12, e_x_12, hp⟩ := bind_inv hp
               obtain ⟨x_13, e_x_13, hp⟩ := bind_inv hp
               refine SC.pre (pre_ix (i := 0) (iv := x_11) (sz := 2) (R := R_T_api_Subscription) (l := b_1.Subs) (by kernel_rfl) rfl e_x_12) ?_
               refine SC.pre (pre_ix (i := 0) (iv := x_11) (sz := 2) (R := R_T_api_Subscription) (l := b_1.Subs) (by kernel_rfl) rfl e_x_13) ?_
               refine SC.draw MO [true, true, false, true, true] (by kernel_rfl) fun kap_14 D_15 => ?_
               refine SD.takes tk D_15 [] kn0 [0, 1, 2, 3, 4, 5, 6, 7, 10, 11, 12, 13, 14, 15, 16] [.el 3, .el 4] [x_11, x_11] [I, I, I, I, I, I, I, I, O, O, I, I, I, I, I, I, I, O, O, O] [(1, vp 1 0), (5, vs 2), (8, vi .i64 x_11), (70, vs 2), (77, vi .u64 (wu64 x_12.Handle)), (86, vi .u8 (wu8 x_13.Bits))] rfl (by kernel_rfl) (by kernel_rfl) (by kernel_rfl) ?_
               obtain ⟨x_656, e_x_656, hp⟩ := bind_inv hp
               obtain ⟨l_736, e_l_736, hp⟩ := bind_inv hp
               obtain ⟨l_1456, e_l_1456, hp⟩ := bind_inv hp
               refine SD.lay 0 [I, I, I, I, I, I, I, I, I, I, I, I, I, I, I, I, I, I, I, I] [(1, vp 1 0), (5, vs 8), (8, vi .i64 x_11)] [.rd 2 R_T_api_Subscription b_1.Subs, .blk 30 (C_api_Bond b_1 (.s 0)), .gone, .elt (some (0, x_11)) false (C_api_Subscription x_12), .elt (some (0, x_11)) false (C_api_Subscription x_13), .gone, .gone, .gone, .own 1 5 R8 l_1456] ?_ (fun c_15_0 => ?_)
               · refine SD.doneThen (by kernel_rfl) ?_
                 refine SC.reg ?_
                 refine SL.sim tk 3 [(1, vp 1 0), (5, vs 8), (8, vi .i64 (w64 (x_11 + 1)))] [] [] [] (by kernel_rfl) ?_
                 refine SL.nilJ fun a w h => ?_
                 exact ⟨n1, Nat.lt_succ_self _, l_1456, w64 (x_11 + 1), next_inv hp hs1, h.at (js := [.g 0, .g 1, .g 8]) (by kernel_rfl)⟩
               · refine SD.lay 2 [I, I, I, I, I, I, I, I, I, I, I, I, I, I, I, I, I, I, O, O] [(1, vp 1 0), (8, vi .i64 x_11), (79, vs 6), (87, vs 7)] [.rd 2 R_T_api_Subscription b_1.Subs, .blk 30 (C_api_Bond b_1 (.s 0)), .gone, .elt (some (0, x_11)) false (C_api_Subscription x_12), .elt (some (0, x_11)) false (C_api_Subscription x_13), .gone, .own 1 5 R8 l_736, .own 1 5 R8 [wu8 x_13.Bits]] ?_ (fun c_15_1 => ?_)
                 · refine SD.all1 (i := 18) (by kernel_rfl) ?_
                   refine SW.eff D_15 (i := 18) (bs' := [I, I, I, I, I, I, I, I, I, I, I, I, I, I, I, I, I, I, I, O]) rfl (.inl rfl) rfl (e_app (i := 6) (l := l_736) (sz := 1) (E := 5) (R := R8) (by_ := 1) (m := [wu8 x_13.Bits]) tk rfl (by kernel_rfl) rfl (.o 5 (by kernel_rfl)) e_l_1456 (by kernel_rfl)) (by kernel_rfl) rfl (by kernel_rfl) ?_
                   refine SD.takes tk D_15 [] kn0 [19] [] [] [I, I, I, I, I, I, I, I, I, I, I, I, I, I, I, I, I, I, I, I] [(1, vp 1 0), (5, vs 8), (8, vi .i64 x_11)] rfl (by kernel_rfl) (by kernel_rfl) (by kernel_rfl) ?_
                   exact SD.vie D_15 [.g 0, .g 1, .g 2, .g 3, .g 4, .n, .n, .n, .g 8] c_15_0 (by kernel_rfl)
                 · refine SD.lay 3 [I, I, I, I, I, I, I, I, I, I, I, I, I, I, I, I, I, O, O, O] [(1, vp 1 0), (8, vi .i64 x_11), (79, vs 6), (86, vi .u8 (wu8 x_13.Bits))] [.rd 2 R_T_api_Subscription b_1.Subs, .blk 30 (C_api_Bond b_1 (.s 0)), .gone, .elt (some (0, x_11)) false (C_api_Subscription x_12), .elt (some (0, x_11)) false (C_api_Subscription x_13), .gone, .own 1 5 R8 l_736] ?_ (fun c_15_2 => ?_)
                   · refine SD.all1 (i := 17) (by kernel_rfl) ?_
                     refine SW.eff D_15 (i := 17) (bs' := [I, I, I, I, I, I, I, I, I, I, I, I, I, I, I, I, I, I, O, O]) rfl (.inl rfl) rfl (e_lit (sz := 1) (E := 5) (R := R8) (by_ := 1) tk [[ci .u8 (wu8 x_13.Bits)]] [wu8 x_13.Bits] (by kernel_rfl) ⟨Clo.int, trivial⟩ rfl (by kernel_rfl) (by kernel_rfl)) (by kernel_rfl) rfl (by kernel_rfl) ?_
                     exact SD.vie D_15 [.g 0, .g 1, .g 2, .g 3, .g 4, .n, .g 6, .g 7] c_15_1 (by kernel_rfl)
                   · refine SD.lay 3 [I, I, I, I, I, I, I, I, I, O, I, I, I, I, I, I, I, I, O, O] [(1, vp 1 0), (5, vs 2), (8, vi .i64 x_11), (70, vs 2), (78, vs 5), (87, vs 6)] [.rd 2 R_T_api_Subscription b_1.Subs, .blk 30 (C_api_Bond b_1 (.s 0)), .own 1 5 R8 l_10, .elt (some (0, x_11)) false (C_api_Subscription x_12), .elt (some (0, x_11)) false (C_api_Subscription x_13), .rd 1 R8 x_656, .own 1 5 R8 [wu8 x_13.Bits]] ?_ (fun c_15_3 => ?_)
                     · refine SD.all1 (i := 9) (by kernel_rfl) ?_
                       refine SW.eff D_15 (i := 9) (bs' := [I, I, I, I, I, I, I, I, I, I, I, I, I, I, I, I, I, I, O, O]) rfl (.inl rfl) rfl (e_app (i := 2) (l := l_10) (sz := 1) (E := 5) (R := R8) (by_ := 1) (m := x_656) tk rfl (by kernel_rfl) rfl (.r (by kernel_rfl)) e_l_736 (by kernel_rfl)) (by kernel_rfl) rfl (by kernel_rfl) ?_
                       exact SD.vie D_15 [.g 0, .g 1, .g 2, .g 3, .g 4, .n, .g 7, .g 6] c_15_1 (by kernel_rfl)
                     · refine SD.lay 4 [I, I, I, I, I, I, I, I, I, O, I, I, I, I, I, I, I, O, O, O] [(1, vp 1 0), (5, vs 2), (8, vi .i64 x_11), (70, vs 2), (78, vs 5), (86, vi .u8 (wu8 x_13.Bits))] [.rd 2 R_T_api_Subscription b_1.Subs, .blk 30 (C_api_Bond b_1 (.s 0)), .own 1 5 R8 l_10, .elt (some (0, x_11)) false (C_api_Subscription x_12), .elt (some (0, x_11)) false (C_api_Subscription x_13), .rd 1 R8 x_656] ?_ (fun c_15_4 => ?_)
                       · refine SD.all2 (i := 9) (j := 17) (by kernel_rfl) ?_ ?_
                         · refine SW.eff D_15 (i := 9) (bs' := [I, I, I, I, I, I, I, I, I, I, I, I, I, I, I, I, I, O, O, O]) rfl (.inl rfl) rfl (e_app (i := 2) (l := l_10) (sz := 1) (E := 5) (R := R8) (by_ := 1) (m := x_656) tk rfl (by kernel_rfl) rfl (.r (by kernel_rfl)) e_l_736 (by kernel_rfl)) (by kernel_rfl) rfl (by kernel_rfl) ?_
                           exact SD.vie D_15 [.g 0, .g 1, .g 2, .g 3, .g 4, .n, .g 6] c_15_2 (by kernel_rfl)
                         · refine SW.eff D_15 (i := 17) (bs' := [I, I, I, I, I, I, I, I, I, O, I, I, I, I, I, I, I, I, O, O]) rfl (.inl rfl) rfl (e_lit (sz := 1) (E := 5) (R := R8) (by_ := 1) tk [[ci .u8 (wu8 x_13.Bits)]] [wu8 x_13.Bits] (by kernel_rfl) ⟨Clo.int, trivial⟩ rfl (by kernel_rfl) (by kernel_rfl)) (by kernel_rfl) rfl (by kernel_rfl) ?_
                           exact SD.vie D_15 [.g 0, .g 1, .g 2, .g 3, .g 4, .g 5, .g 6] c_15_3 (by kernel_rfl)
                       · refine SD.lay 4 [I, I, I, I, I, I, I, I, O, O, I, I, I, I, I, I, I, I, O, O] [(1, vp 1 0), (5, vs 2), (8, vi .i64 x_11), (70, vs 2), (77, vi .u64 (wu64 x_12.Handle)), (87, vs 5)] [.rd 2 R_T_api_Subscription b_1.Subs, .blk 30 (C_api_Bond b_1 (.s 0)), .own 1 5 R8 l_10, .elt (some (0, x_11)) false (C_api_Subscription x_12), .elt (some (0, x_11)) false (C_api_Subscription x_13), .own 1 5 R8 [wu8 x_13.Bits]] ?_ (fun c_15_5 => ?_)
                         · refine SD.all1 (i := 8) (by kernel_rfl) ?_
                           refine SW.eff D_15 (i := 8) (bs' := [I, I, I, I, I, I, I, I, I, O, I, I, I, I, I, I, I, I, O, O]) rfl (.inl rfl) rfl (e_c Tryd.call43 (ok_wirelessref02_Num F 2 (wu64 x_12.Handle) _ e_x_656) [] [vi .i64 2, vi .u64 (wu64 x_12.Handle)] (vs 6) (by kernel_rfl) (.inl rfl)) (by kernel_rfl) rfl (by kernel_rfl) ?_
                           exact SD.vie D_15 [.g 0, .g 1, .g 2, .g 3, .g 4, .g 6, .g 5] c_15_3 (by kernel_rfl)
                         · refine SD.all2 (i := 8) (j := 17) (by kernel_rfl) ?_ ?_
                           · refine SW.eff D_15 (i := 8) (bs' := [I, I, I, I, I, I, I, I, I, O, I, I, I, I, I, I, I, O, O, O]) rfl (.inl rfl) rfl (e_c Tryd.call43 (ok_wirelessref02_Num F 2 (wu64 x_12.Handle) _ e_x_656) [] [vi .i64 2, vi .u64 (wu64 x_12.Handle)] (vs 5) (by kernel_rfl) (.inl rfl)) (by kernel_rfl) rfl (by kernel_rfl) ?_
                             exact SD.vie D_15 [.g 0, .g 1, .g 2, .g 3, .g 4, .g 5] c_15_4 (by kernel_rfl)
                           · refine SW.eff D_15 (i := 17) (bs' := [I, I, I, I, I, I, I, I, O, O, I, I, I, I, I, I, I, I, O, O]) rfl (.inl rfl) rfl (e_lit (sz := 1) (E := 5) (R := R8) (by_ := 1) tk [[ci .u8 (wu8 x_13.Bits)]] [wu8 x_13.Bits] (by kernel_rfl) ⟨Clo.int, trivial⟩ rfl (by kernel_rfl) (by kernel_rfl)) (by kernel_rfl) rfl (by kernel_rfl) ?_
                             exact SD.vie D_15 [.g 0, .g 1, .g 2, .g 3, .g 4, .g 5] c_15_5 (by kernel_rfl)
             · refine SC.exitJ rfl fun a w h => ?_
               have ho := done_inv hp hs1
               replace hp := ho1
               try rw [ho] at hp
               exact ⟨l_10, hp, h.at (js := [.g 0, .g 2]) (by kernel_rfl)⟩
           · rintro a w ⟨l_9, hp, h⟩
             refine h.go ?_
             refine SC.r tk [(2, vs 1), (3, vi .i64 0)] [] [] [] (by kernel_rfl) ?_
             obtain rfl := some_inv' hp
             exact SC.re (js := [.g 0, .z 1]) tk (by kernel_rfl)

theorem ok_wirelessref02_Value (F : Nat) (b_1 : (List Int)) (r : Int) (hp : wirelessref02_Value F b_1 = some r) : Spec Tryd.prog 47 [vs 0] [.rd 1 R8 b_1] (vi .u64 r) [.gone] := by
 refine Spec.enter Tryd.func47 rfl Tryd.ntmps47 rfl rfl fun fx => ?_
 refine SC.r tk [(0, vs 0)] [] [] [] (by kernel_rfl) ?_
 refine SC.r tk [(0, vs 0), (3, vi .u64 0)] [] [] [] (by kernel_rfl) ?_
 refine SC.cut (fun a w => ∃ (x_2 : Int), wirelessref02_Value_j1 F x_2 = some r ∧ A 21 1 fx [(3, vi .u64 x_2)] [.gone] a w) ?_ ?_
 · refine SC.r tk [(0, vs 0), (3, vi .u64 0), (4, vi .i64 (w64 ((len b_1) - 1)))] [] [] [] (by kernel_rfl) ?_
   refine SC.block ?_
   obtain ⟨o1, hi1, ho1⟩ := bind_inv hp
   clear hp
   refine SC.loop (fun n a w => ∃ (x_3 : Int) (x_4 : Int), iter (fun s => wirelessref02_Value_l1 F b_1 s.1 s.2) n (x_3, x_4) = some o1 ∧ A 21 1 fx [(0, vs 0), (3, vi .u64 x_3), (4, vi .i64 x_4)] [.rd 1 R8 b_1] a w) F (fun a w h => ⟨0, w64 ((len b_1) - 1), hi1, h.at (js := [.g 0]) (by kernel_rfl)⟩) ?_
   rintro n1 a w ⟨x_3, x_4, hi1, h⟩
   obtain ⟨n1, q1, rfl, hp, hs1⟩ := iter_inv hi1
   replace hp : wirelessref02_Value_l1 F b_1 x_3 x_4 = some q1 := hp
   clear hi1
   refine h.go ?_
   refine SC.seq ?_
   refine SC.r tk [(0, vs 0), (3, vi .u64 x_3), (4, vi .i64 x_4), (9, vb (decide (x_4 ≥ 0)))] [] [] [] (by kernel_rfl) ?_
   refine SC.if' rfl hp (fun hp => ?_) (fun hp => ?_)
   · refine SC.skipThen ?_
     refine SC.seq ?_
     refine SC.block ?_
     refine SC.reg ?_
     obtain ⟨x_5, e_x_5, hp⟩ := bind_inv hp
     refine SL.pre (pre_ix (i := 0) (iv := x_4) (sz := 1) (R := R8) (l := b_1) (by kernel_rfl) rfl e_x_5) ?_
     refine SL.sim tk 9 [(0, vs 0), (3, vi .u64 (wu64 ((wu64 (x_3 * 256)) + (wu64 x_5)))), (4, vi .i64 x_4)] [] [.el 1] [x_4] (by kernel_rfl) ?_
     refine SL.nilThen ?_
     refine SC.reg ?_
     refine SL.sim tk 3 [(0, vs 0), (3, vi .u64 (wu64 ((wu64 (x_3 * 256)) + (wu64 x_5)))), (4, vi .i64 (w64 (x_4 - 1)))] [] [] [] (by kernel_rfl) ?_
     refine SL.nilJ fun a w h => ?_
     exact ⟨n1, Nat.lt_succ_self _, wu64 ((wu64 (x_3 * 256)) + (wu64 x_5)), w64 (x_4 - 1), next_inv hp hs1, h.at (js := [.g 0]) (by kernel_rfl)⟩
   · refine SC.exitJ rfl fun a w h => ?_
     have ho := done_inv hp hs1
     replace hp := ho1
     try rw [ho] at hp
     exact ⟨x_3, hp, h.at (js := [.g 0]) (by kernel_rfl)⟩
 · rintro a w ⟨x_2, hp, h⟩
   refine h.go ?_
   refine SC.r tk [(2, vi .u64 x_2)] [] [] [] (by kernel_rfl) ?_
   obtain rfl := some_inv' hp
   exact SC.re (js := [.g 0]) tk (by kernel_rfl)

theorem ok_wirelessref08_Decode (F : Nat) (b_1 : (List Int)) (r : T_api_Address × (List Int) × Int) (hp : wirelessref08_Decode F b_1 = some r) : Spec Tryd.prog 46 [vs 0] [.rd 1 R8 b_1] (.u [.inr [ci .i64 r.1.Kind, ci .u64 r.1.Bits], .inl (.s 1), .inl (ci .i64 r.2.2)]) [.gone, .rd 1 R8 r.2.1] := by
 refine Spec.enter Tryd.func46 rfl Tryd.ntmps46 rfl rfl fun fx => ?_
 refine SC.seq ?_
 refine SC.reg ?_
 refine SL.eff (e_alloc (E := 24) tk [ci .i64 0, ci .u64 0] (by kernel_rfl)) rfl (by kernel_rfl) ?_
 refine SL.sim tk 2 [(0, vs 0), (2, vp 1 0)] [] [] [] (by kernel_rfl) ?_
 refine SL.nilThen ?_
 refine SC.seq ?_
 refine SC.r tk [(0, vs 0), (2, vp 1 0), (9, vb (decide ((len b_1) < 7)))] [] [] [] (by kernel_rfl) ?_
 refine SC.if' rfl hp (fun hp => ?_) (fun hp => ?_)
 · refine SC.r tk [(2, vp 1 0), (3, vn), (4, vi .i64 3)] [(1, 24, [ci .i64 0, ci .u64 0])] [] [] (by kernel_rfl) ?_
   obtain rfl := some_inv' hp
   exact SC.re (js := [.g 0, .n]) tk (by kernel_rfl)
 · refine SC.skipThen ?_
   refine SC.cut (fun a w => ∃ (c_4 : T_api_Address), wirelessref08_Decode_j1 F b_1 c_4 = some r ∧ A 30 1 fx [(0, vs 0), (2, vp 1 0), (5, vp 2 0)] [.rd 1 R8 b_1, .blk 24 [ci .i64 0, ci .u64 0], .blk 24 (C_api_Address c_4)] a w) ?_ ?_
   · obtain ⟨x_11, e_x_11, hp⟩ := bind_inv hp
     refine SC.pre (pre_ix (i := 0) (iv := 0) (sz := 1) (R := R8) (l := b_1) (by kernel_rfl) rfl e_x_11) ?_
     refine SC.draw MO [true, true, true] (by kernel_rfl) fun kap_12 D_13 => ?_
     refine SD.takes tk D_13 [] kn0 [0, 1, 2, 3, 4] [.el 2] [0] [I, I, I, I, I, O, O, O, O, O] [(0, vs 0), (2, vp 1 0), (14, vi .i64 (w64 x_11)), (15, vs 0)] rfl (by kernel_rfl) (by kernel_rfl) (by kernel_rfl) ?_
     obtain ⟨l_14, e_l_14, hp⟩ := bind_inv hp
     refine SD.sub (sz := 1) (E := 5) (R := R8) (by_ := 1) (l := b_1) tk D_13 (i := 5) [I, I, I, I, I, I, O, O, O, O] rfl rfl (by kernel_rfl) rfl rfl rfl (.inl ⟨0, rfl, (by kernel_rfl)⟩) rfl rfl e_l_14 (by kernel_rfl) ?_
     obtain ⟨x_495, e_x_495, hp⟩ := bind_inv hp
     refine SD.lay 0 [I, I, I, I, I, I, I, I, I, I] [(0, vs 0), (2, vp 1 0), (5, vp 3 0)] [.rd 1 R8 b_1, .blk 24 [ci .i64 0, ci .u64 0], .elt (some (0, 0)) false [ci .u8 x_11], .blk 24 [ci .i64 (w64 x_11), ci .u64 x_495]] ?_ (fun c_14_0 => ?_)
     · refine SD.done (by kernel_rfl) fun a w h => ?_
       exact ⟨(T_api_Address.mk (w64 x_11) x_495), hp, h.at (js := [.g 0, .g 1, .g 3]) (by kernel_rfl)⟩
     · refine SD.lay 1 [I, I, I, I, I, I, I, I, I, O] [(0, vs 0), (2, vp 1 0), (5, vp 3 0), (18, .g [ci .i64 (w64 x_11), ci .u64 x_495])] [.rd 1 R8 b_1, .blk 24 [ci .i64 0, ci .u64 0], .elt (some (0, 0)) false [ci .u8 x_11], .blk 24 [ci .i64 0, ci .u64 0]] ?_ (fun c_14_1 => ?_)
       · refine SD.all1 (i := 9) (by kernel_rfl) ?_
         refine SW.store D_13 tk (i := 9) (q := 3) (T := 24) (cs := [ci .i64 (w64 x_11), ci .u64 x_495]) (bs' := [I, I, I, I, I, I, I, I, I, I]) rfl (by kernel_rfl) rfl rfl (by kernel_rfl) ?_
         exact SD.vie D_13 [.g 0, .g 1, .g 2, .g 3] c_14_0 (by kernel_rfl)
       · refine SD.lay 2 [I, I, I, I, I, I, I, I, O, O] [(0, vs 0), (2, vp 1 0), (18, .g [ci .i64 (w64 x_11), ci .u64 x_495])] [.rd 1 R8 b_1, .blk 24 [ci .i64 0, ci .u64 0], .elt (some (0, 0)) false [ci .u8 x_11]] ?_ (fun c_14_2 => ?_)
         · refine SD.all1 (i := 8) (by kernel_rfl) ?_
           refine SW.eff D_13 (i := 8) (bs' := [I, I, I, I, I, I, I, I, I, O]) rfl (.inl rfl) rfl (e_alloc (E := 24) tk [ci .i64 0, ci .u64 0] (by kernel_rfl)) (by kernel_rfl) rfl (by kernel_rfl) ?_
           exact SD.vie D_13 [.g 0, .g 1, .g 2, .g 3] c_14_1 (by kernel_rfl)
         · refine SD.lay 3 [I, I, I, I, I, I, O, O, I, O] [(0, vs 0), (2, vp 1 0), (5, vp 4 0), (14, vi .i64 (w64 x_11)), (16, vs 3)] [.rd 1 R8 b_1, .blk 24 [ci .i64 0, ci .u64 0], .elt (some (0, 0)) false [ci .u8 x_11], .rd 1 R8 l_14, .blk 24 [ci .i64 0, ci .u64 0]] ?_ (fun c_14_3 => ?_)
           · refine SD.all1 (i := 6) (by kernel_rfl) ?_
             refine SW.eff D_13 (i := 6) (bs' := [I, I, I, I, I, I, I, O, I, O]) rfl (.inl rfl) rfl (e_c Tryd.call47 (ok_wirelessref02_Value F l_14 _ e_x_495) [.g 3] [vs 3] (vi .u64 x_495) (by kernel_rfl) (.inl rfl)) (by kernel_rfl) rfl (by kernel_rfl) ?_
             refine SD.takes tk D_13 [] kn0 [7] [] [] [I, I, I, I, I, I, I, I, I, O] [(0, vs 0), (2, vp 1 0), (5, vp 4 0), (18, .g [ci .i64 (w64 x_11), ci .u64 x_495])] rfl (by kernel_rfl) (by kernel_rfl) (by kernel_rfl) ?_
             exact SD.vie D_13 [.g 0, .g 1, .g 2, .g 4] c_14_1 (by kernel_rfl)
           · refine SD.all2 (i := 6) (j := 8) (by kernel_rfl) ?_ ?_
             · refine SW.eff D_13 (i := 6) (bs' := [I, I, I, I, I, I, I, O, O, O]) rfl (.inl rfl) rfl (e_c Tryd.call47 (ok_wirelessref02_Value F l_14 _ e_x_495) [.g 3] [vs 3] (vi .u64 x_495) (by kernel_rfl) (.inl rfl)) (by kernel_rfl) rfl (by kernel_rfl) ?_
               refine SD.norm (itsN := [.rd 1 R8 b_1, .blk 24 [ci .i64 0, ci .u64 0], .elt (some (0, 0)) false [ci .u8 x_11], .rd 1 R8 l_14]) (by kernel_rfl) ?_
               refine SD.takes tk D_13 [] kn0 [7] [] [] [I, I, I, I, I, I, I, I, O, O] [(0, vs 0), (2, vp 1 0), (18, .g [ci .i64 (w64 x_11), ci .u64 x_495])] rfl (by kernel_rfl) (by kernel_rfl) (by kernel_rfl) ?_
               exact SD.vie D_13 [.g 0, .g 1, .g 2] c_14_2 (by kernel_rfl)
             · refine SW.eff D_13 (i := 8) (bs' := [I, I, I, I, I, I, O, O, I, O]) rfl (.inl rfl) rfl (e_alloc (E := 24) tk [ci .i64 0, ci .u64 0] (by kernel_rfl)) (by kernel_rfl) rfl (by kernel_rfl) ?_
               refine SD.norm (itsN := [.rd 1 R8 b_1, .blk 24 [ci .i64 0, ci .u64 0], .elt (some (0, 0)) false [ci .u8 x_11], .rd 1 R8 l_14, .blk 24 [ci .i64 0, ci .u64 0]]) (by kernel_rfl) ?_
               exact SD.vie D_13 [.g 0, .g 1, .g 2, .g 3, .g 4] c_14_3 (by kernel_rfl)
   · rintro a w ⟨c_4, hp, h⟩
     refine h.go ?_
     refine SC.seq ?_
     refine SC.seq ?_
     refine SC.reg ?_
     refine SL.sim tk 1 [(0, vs 0), (2, vp 1 0), (5, vp 2 0), (19, .g (C_api_Address c_4))] [] [] [] (by kernel_rfl) ?_
     obtain ⟨x_5, e_x_5, hp⟩ := bind_inv hp
     refine SL.eff (e_c Tryd.call49 (ok_wirelessref08_Check F c_4 _ e_x_5) [] [.g (C_api_Address c_4)] (vi .i64 x_5) (by kernel_rfl) (.inl rfl)) rfl (by kernel_rfl) ?_
     refine SL.sim tk 1 [(0, vs 0), (2, vp 1 0), (5, vp 2 0), (6, vi .i64 x_5)] [] [] [] (by kernel_rfl) ?_
     refine SL.nilThen ?_
     refine SC.r tk [(0, vs 0), (2, vp 1 0), (5, vp 2 0), (6, vi .i64 x_5), (22, vb (x_5 != 0))] [] [] [] (by kernel_rfl) ?_
     refine SC.if' rfl hp (fun hp => ?_) (fun hp => ?_)
     · refine SC.r tk [(2, vp 1 0), (3, vn), (4, vi .i64 x_5)] [(1, 24, [ci .i64 0, ci .u64 0])] [] [] (by kernel_rfl) ?_
       obtain rfl := some_inv' hp
       exact SC.re (js := [.g 0, .n]) tk (by kernel_rfl)
     · refine SC.skipThen ?_
       refine SC.cut (fun a w => ∃ (l_6 : (List Int)), wirelessref08_Decode_j2 F c_4 l_6 = some r ∧ A 30 1 fx [(2, vp 1 0), (3, vs 2), (4, vi .i64 0)] [.gone, .blk 24 (C_api_Address c_4), .own 1 5 R8 l_6] a w) ?_ ?_
       · refine SC.draw MO [true, false, true] (by kernel_rfl) fun kap_7 D_8 => ?_
         refine SD.takes tk D_8 [] kn0 [0, 2] [] [] [I, O, I, O, O, O, O, O] [(2, vp 1 0), (25, .g (C_api_Address c_4)), (27, vs 0)] rfl (by kernel_rfl) (by kernel_rfl) (by kernel_rfl) ?_
         obtain ⟨l_9, e_l_9, hp⟩ := bind_inv hp
         refine SD.sub (sz := 1) (E := 5) (R := R8) (by_ := 1) (l := b_1) tk D_8 (i := 3) [I, O, I, I, O, O, O, O] rfl rfl (by kernel_rfl) rfl rfl rfl (.inl ⟨0, rfl, (by kernel_rfl)⟩) rfl rfl e_l_9 (by kernel_rfl) ?_
         refine SD.all1 (i := 1) (by kernel_rfl) ?_
         refine SW.eff D_8 (i := 1) (bs' := [I, I, I, I, O, O, O, O]) rfl (.inl rfl) rfl (e_lit (sz := 1) (E := 5) (R := R8) (by_ := 1) tk [] ([] : (List Int)) (by kernel_rfl) trivial rfl (by kernel_rfl) (by kernel_rfl)) (by kernel_rfl) rfl (by kernel_rfl) ?_
         refine SD.norm (itsN := [.rd 1 R8 b_1, .blk 24 [ci .i64 0, ci .u64 0], .blk 24 (C_api_Address c_4), .rd 1 R8 l_9, .own 1 5 R8 ([] : (List Int))]) (by kernel_rfl) ?_
         obtain ⟨l_10, e_l_10, hp⟩ := bind_inv hp
         refine SD.all1 (i := 4) (by kernel_rfl) ?_
         refine SW.eff D_8 (i := 4) (bs' := [I, I, I, I, I, O, O, O]) rfl (.inl rfl) rfl (e_app (i := 4) (l := ([] : (List Int))) (sz := 1) (E := 5) (R := R8) (by_ := 1) (m := l_9) tk rfl (by kernel_rfl) rfl (.r (by kernel_rfl)) e_l_10 (by kernel_rfl)) (by kernel_rfl) rfl (by kernel_rfl) ?_
         refine SD.all1 (i := 5) (by kernel_rfl) ?_
         refine SW.store D_8 tk (i := 5) (q := 1) (T := 24) (cs := (C_api_Address c_4)) (bs' := [I, I, I, I, I, I, O, O]) rfl (by kernel_rfl) rfl rfl (by kernel_rfl) ?_
         refine SD.norm (itsN := [.rd 1 R8 b_1, .blk 24 (C_api_Address c_4), .blk 24 (C_api_Address c_4), .rd 1 R8 l_9, .gone, .own 1 5 R8 l_10]) (by kernel_rfl) ?_
         refine SD.takes tk D_8 [] kn0 [6, 7] [] [] [I, I, I, I, I, I, I, I] [(2, vp 1 0), (3, vs 5), (4, vi .i64 0)] rfl (by kernel_rfl) (by kernel_rfl) (by kernel_rfl) ?_
         refine SD.done (by kernel_rfl) fun a w h => ?_
         exact ⟨l_10, hp, h.at (js := [.g 0, .g 1, .g 5]) (by kernel_rfl)⟩
       · rintro a w ⟨l_6, hp, h⟩
         refine h.go ?_
         obtain rfl := some_inv' hp
         exact SC.re (js := [.g 0, .z 2]) tk (by kernel_rfl)

theorem ok_wirelessref40_Decode (F : Nat) (b_1 : (List Int)) (r : T_api_Bond × Int) (hp : wirelessref40_Decode F b_1 = some r) : Spec Tryd.prog 13 [vs 0] [.rd 1 R8 b_1] (.u [.inr [ci .i64 r.1.Peer.Address.Kind, ci .u64 r.1.Peer.Address.Bits, ci .u64 r.1.Peer.IRK, ci .u64 r.1.LTK, ci .u64 r.1.Mark, cb r.1.Strong, ci .u64 r.1.Hash, cb r.1.Aware, .s 1, ci .i64 r.1.Used], .inl (ci .i64 r.2)]) [.gone, .rd 2 R_T_api_Subscription r.1.Subs] := by
 refine Spec.enter Tryd.func13 rfl Tryd.ntmps13 rfl rfl fun fx => ?_
 refine SC.seq ?_
 refine SC.reg ?_
 refine SL.eff (e_alloc (E := 30) tk (C_api_Bond (T_api_Bond.mk (T_api_Identity.mk (T_api_Address.mk 0 0) 0) 0 0 false 0 false [] 0) nl) (by kernel_rfl)) rfl (by kernel_rfl) ?_
 refine SL.sim tk 1 [(0, vs 0), (2, vp 1 0)] [] [] [] (by kernel_rfl) ?_
 refine SL.nilThen ?_
 refine SC.seq ?_
 refine SC.seq ?_
 refine SC.reg ?_
 refine SL.sim tk 4 [(0, vs 0), (2, vp 1 0), (12, vb (decide ((len b_1) < 45)))] [] [] [] (by kernel_rfl) ?_
 obtain ⟨z_3, hz, hpr⟩ := bind_inv hp
 clear hp
 refine SL.cutAt 10 (fun a w => A 111 1 fx [(0, vs 0), (2, vp 1 0), (22, vb z_3)] [.rd 1 R8 b_1, .blk 30 (C_api_Bond (T_api_Bond.mk (T_api_Identity.mk (T_api_Address.mk 0 0) 0) 0 0 false 0 false [] 0) nl)] a w) ?_ ?_
 · have hp := hz
   rcases Bool.eq_false_or_eq_true (decide ((len b_1) < 45)) with hg_2 | hg_2
   · replace hp := if_t hp hg_2
     refine SL.no rfl rfl hg_2 rfl ?_
     refine SL.no rfl rfl hg_2 rfl ?_
     refine SL.no rfl rfl hg_2 rfl ?_
     refine SL.no rfl rfl hg_2 rfl ?_
     refine SL.no rfl rfl hg_2 rfl ?_
     refine SL.no rfl rfl hg_2 rfl ?_
     refine SL.no rfl rfl hg_2 rfl ?_
     refine SL.no rfl rfl hg_2 rfl ?_
     refine SL.no rfl rfl hg_2 rfl ?_
     refine SL.pickt rfl hg_2 rfl rfl ?_
     refine SL.nilJ fun a w h => ?_
     obtain rfl := some_inv' hp
     exact h.at (js := [.g 0, .g 1]) (by kernel_rfl)
   · replace hp := if_f hp hg_2
     refine SL.yes rfl rfl hg_2 ?_
     refine SL.sim tk 1 [(0, vs 0), (2, vp 1 0), (12, vb (decide ((len b_1) < 45))), (13, vs 0)] [] [] [] (by kernel_rfl) ?_
     refine SL.yes rfl rfl hg_2 ?_
     refine SL.sim tk 1 [(0, vs 0), (2, vp 1 0), (12, vb (decide ((len b_1) < 45))), (14, vi .i64 (len b_1))] [] [] [] (by kernel_rfl) ?_
     refine SL.yes rfl rfl hg_2 ?_
     refine SL.sim tk 1 [(0, vs 0), (2, vp 1 0), (12, vb (decide ((len b_1) < 45))), (14, vi .i64 (len b_1)), (15, vs 0)] [] [] [] (by kernel_rfl) ?_
     refine SL.yes rfl rfl hg_2 ?_
     obtain ⟨x_4196, e_x_4196, hp⟩ := bind_inv hp
     refine SL.pre (pre_ix (i := 0) (iv := 44) (sz := 1) (R := R8) (l := b_1) (by kernel_rfl) rfl e_x_4196) ?_
     refine SL.sim tk 1 [(0, vs 0), (2, vp 1 0), (12, vb (decide ((len b_1) < 45))), (14, vi .i64 (len b_1)), (16, vp 2 0)] [] [.el 2] [44] (by kernel_rfl) ?_
     refine SL.yes rfl rfl hg_2 ?_
     refine SL.sim tk 1 [(0, vs 0), (2, vp 1 0), (12, vb (decide ((len b_1) < 45))), (14, vi .i64 (len b_1)), (17, vi .u8 x_4196)] [] [] [] (by kernel_rfl) ?_
     refine SL.yes rfl rfl hg_2 ?_
     refine SL.sim tk 1 [(0, vs 0), (2, vp 1 0), (12, vb (decide ((len b_1) < 45))), (14, vi .i64 (len b_1)), (18, vi .i64 (w64 x_4196))] [] [] [] (by kernel_rfl) ?_
     refine SL.yes rfl rfl hg_2 ?_
     refine SL.sim tk 1 [(0, vs 0), (2, vp 1 0), (12, vb (decide ((len b_1) < 45))), (14, vi .i64 (len b_1)), (19, vi .i64 (w64 (3 * (w64 x_4196))))] [] [] [] (by kernel_rfl) ?_
     refine SL.yes rfl rfl hg_2 ?_
     refine SL.sim tk 1 [(0, vs 0), (2, vp 1 0), (12, vb (decide ((len b_1) < 45))), (14, vi .i64 (len b_1)), (20, vi .i64 (w64 (45 + (w64 (3 * (w64 x_4196))))))] [] [] [] (by kernel_rfl) ?_
     refine SL.yes rfl rfl hg_2 ?_
     refine SL.sim tk 1 [(0, vs 0), (2, vp 1 0), (12, vb (decide ((len b_1) < 45))), (21, vb (decide ((len b_1) < (w64 (45 + (w64 (3 * (w64 x_4196))))))))] [] [] [] (by kernel_rfl) ?_
     refine SL.pickf rfl hg_2 rfl rfl ?_
     refine SL.nilJ fun a w h => ?_
     obtain rfl := some_inv' hp
     exact h.at (js := [.g 0, .g 1]) (by kernel_rfl)
 · intro a w h
   have hp := hpr; clear hpr hz
   refine h.goL ?_
   refine SL.nilThen ?_
   refine SC.if' rfl hp (fun hp => ?_) (fun hp => ?_)
   · refine SC.r tk [(2, vp 1 0), (3, vi .i64 3)] [(1, 30, (C_api_Bond (T_api_Bond.mk (T_api_Identity.mk (T_api_Address.mk 0 0) 0) 0 0 false 0 false [] 0) nl))] [] [] (by kernel_rfl) ?_
     obtain rfl := some_inv' hp
     exact SC.re (js := [.g 0, .n]) tk (by kernel_rfl)
   · refine SC.skipThen ?_
     refine SC.seq ?_
     refine SC.seq ?_
     refine SC.reg ?_
     obtain ⟨x_4, e_x_4, hp⟩ := bind_inv hp
     refine SL.pre (pre_ix (i := 0) (iv := 44) (sz := 1) (R := R8) (l := b_1) (by kernel_rfl) rfl e_x_4) ?_
     refine SL.sim tk 10 [(0, vs 0), (2, vp 1 0), (33, vb (decide ((len b_1) > (w64 (45 + (w64 (3 * (w64 x_4))))))))] [] [.el 2] [44] (by kernel_rfl) ?_
     obtain ⟨z_6, hz, hpr⟩ := bind_inv hp
     clear hp
     refine SL.cutAt 5 (fun a w => A 111 1 fx [(0, vs 0), (2, vp 1 0), (38, vb z_6)] [.rd 1 R8 b_1, .blk 30 (C_api_Bond (T_api_Bond.mk (T_api_Identity.mk (T_api_Address.mk 0 0) 0) 0 0 false 0 false [] 0) nl)] a w) ?_ ?_
     · have hp := hz
       rcases Bool.eq_false_or_eq_true (decide ((len b_1) > (w64 (45 + (w64 (3 * (w64 x_4))))))) with hg_5 | hg_5
       · replace hp := if_t hp hg_5
         refine SL.no rfl rfl hg_5 rfl ?_
         refine SL.no rfl rfl hg_5 rfl ?_
         refine SL.no rfl rfl hg_5 rfl ?_
         refine SL.no rfl rfl hg_5 rfl ?_
         refine SL.pickt rfl hg_5 rfl rfl ?_
         refine SL.nilJ fun a w h => ?_
         obtain rfl := some_inv' hp
         exact h.at (js := [.g 0, .g 1]) (by kernel_rfl)
       · replace hp := if_f hp hg_5
         refine SL.yes rfl rfl hg_5 ?_
         refine SL.sim tk 1 [(0, vs 0), (2, vp 1 0), (33, vb (decide ((len b_1) > (w64 (45 + (w64 (3 * (w64 x_4)))))))), (34, vs 0)] [] [] [] (by kernel_rfl) ?_
         refine SL.yes rfl rfl hg_5 ?_
         obtain ⟨x_4194, e_x_4194, hp⟩ := bind_inv hp
         refine SL.pre (pre_ix (i := 0) (iv := 31) (sz := 1) (R := R8) (l := b_1) (by kernel_rfl) rfl e_x_4194) ?_
         refine SL.sim tk 1 [(0, vs 0), (2, vp 1 0), (33, vb (decide ((len b_1) > (w64 (45 + (w64 (3 * (w64 x_4)))))))), (35, vp 3 0)] [] [.el 3] [31] (by kernel_rfl) ?_
         refine SL.yes rfl rfl hg_5 ?_
         refine SL.sim tk 1 [(0, vs 0), (2, vp 1 0), (33, vb (decide ((len b_1) > (w64 (45 + (w64 (3 * (w64 x_4)))))))), (36, vi .u8 x_4194)] [] [] [] (by kernel_rfl) ?_
         refine SL.yes rfl rfl hg_5 ?_
         refine SL.sim tk 1 [(0, vs 0), (2, vp 1 0), (33, vb (decide ((len b_1) > (w64 (45 + (w64 (3 * (w64 x_4)))))))), (37, vb (decide (x_4194 > 3)))] [] [] [] (by kernel_rfl) ?_
         refine SL.pickf rfl hg_5 rfl rfl ?_
         refine SL.nilJ fun a w h => ?_
         obtain rfl := some_inv' hp
         exact h.at (js := [.g 0, .g 1]) (by kernel_rfl)
     · intro a w h
       have hp := hpr; clear hpr hz
       refine h.goL ?_
       refine SL.nilThen ?_
       refine SC.if' rfl hp (fun hp => ?_) (fun hp => ?_)
       · refine SC.r tk [(2, vp 1 0), (3, vi .i64 2)] [(1, 30, (C_api_Bond (T_api_Bond.mk (T_api_Identity.mk (T_api_Address.mk 0 0) 0) 0 0 false 0 false [] 0) nl))] [] [] (by kernel_rfl) ?_
         obtain rfl := some_inv' hp
         exact SC.re (js := [.g 0, .n]) tk (by kernel_rfl)
       · refine SC.skipThen ?_
         refine SC.seq ?_
         refine SC.reg ?_
         refine SL.sim tk 1 [(0, vs 0), (2, vp 1 0), (41, vs 0)] [] [] [] (by kernel_rfl) ?_
         obtain ⟨l_7, e_l_7, hp⟩ := bind_inv hp
         refine SL.eff (e_sub (sz := 1) (E := 5) (R := R8) (by_ := 1) (l := b_1) tk rfl (.inl ⟨0, rfl, (by kernel_rfl)⟩) rfl rfl e_l_7 (by kernel_rfl)) rfl (by kernel_rfl) ?_
         obtain ⟨x_8, e_x_8, hp⟩ := bind_inv hp
         refine SL.eff (e_c Tryd.call46 (ok_wirelessref08_Decode F l_7 _ e_x_8) [.g 2] [vs 2] (.u [.inr (C_api_Address x_8.1), .inl (.s 3), .inl (ci .i64 x_8.2.2)]) (by kernel_rfl) (.inl rfl)) rfl (by kernel_rfl) ?_
         refine SL.sim tk 4 [(0, vs 0), (2, vp 1 0), (44, .g (C_api_Address x_8.1)), (45, vs 3), (46, vi .i64 x_8.2.2)] [] [] [] (by kernel_rfl) ?_
         refine SL.eff (e_alloc (E := 24) tk [ci .i64 0, ci .u64 0] (by kernel_rfl)) rfl (by kernel_rfl) ?_
         refine SL.norm (itsN := [.rd 1 R8 b_1, .blk 30 (C_api_Bond (T_api_Bond.mk (T_api_Identity.mk (T_api_Address.mk 0 0) 0) 0 0 false 0 false [] 0) nl), .rd 1 R8 l_7, .rd 1 R8 x_8.2.1, .blk 24 [ci .i64 0, ci .u64 0]]) (by kernel_rfl) ?_
         refine SL.sim tk 3 [(0, vs 0), (2, vp 1 0), (4, vp 4 0), (6, vi .i64 x_8.2.2)] [(4, 24, (C_api_Address x_8.1))] [] [] (by kernel_rfl) ?_
         refine SL.nilThen ?_
         refine SC.seq ?_
         refine SC.r tk [(0, vs 0), (2, vp 1 0), (4, vp 4 0), (6, vi .i64 x_8.2.2), (48, vb (x_8.2.2 != 0))] [] [] [] (by kernel_rfl) ?_
         refine SC.if' rfl hp (fun hp => ?_) (fun hp => ?_)
         · refine SC.r tk [(2, vp 1 0), (3, vi .i64 x_8.2.2)] [(1, 30, (C_api_Bond (T_api_Bond.mk (T_api_Identity.mk (T_api_Address.mk 0 0) 0) 0 0 false 0 false [] 0) nl))] [] [] (by kernel_rfl) ?_
           obtain rfl := some_inv' hp
           exact SC.re (js := [.g 0, .n]) tk (by kernel_rfl)
         · refine SC.skipThen ?_
           refine SC.cut (fun a w => ∃ (x_9 : Int) (x_10 : Int) (x_11 : Int) (z_12 : Bool) (x_13 : Int) (z_14 : Bool) (x_15 : Int), wirelessref40_Decode_j1 F b_1 x_8 x_9 x_10 x_11 z_12 x_13 z_14 x_15 = some r ∧ A 111 1 fx [(0, vs 0), (2, vp 1 0), (7, vp 2 0)] [.rd 1 R8 b_1, .blk 30 (C_api_Bond (T_api_Bond.mk (T_api_Identity.mk (T_api_Address.mk 0 0) 0) 0 0 false 0 false [] 0) nl), .blk 30 (C_api_Bond (T_api_Bond.mk (T_api_Identity.mk x_8.1 x_9) x_10 x_11 z_12 x_13 z_14 [] x_15) nl)] a w) ?_ ?_
           · obtain ⟨x_1704, e_x_1704, hp⟩ := bind_inv hp
             obtain ⟨x_1705, e_x_1705, hp⟩ := bind_inv hp
             refine SC.pre (pre_ix (i := 0) (iv := 31) (sz := 1) (R := R8) (l := b_1) (by kernel_rfl) rfl e_x_1704) ?_
             refine SC.pre (pre_ix (i := 0) (iv := 31) (sz := 1) (R := R8) (l := b_1) (by kernel_rfl) rfl e_x_1705) ?_
             refine SC.draw MO [I, I, I, I, I, I, I] (by kernel_rfl) fun kap_1706 D_1707 => ?_
             refine SD.takes tk D_1707 [] kn0 [0, 1, 5, 8, 11, 12, 13, 14, 15, 16, 17, 18, 19, 20, 23] [.el 5, .bin .rem .u8 x_1704 2 (remp x_1704 2) (by kernel_rfl), .el 6] [31, x_1704, 2, 31] [I, I, O, O, O, I, O, O, I, O, O, I, I, I, I, I, I, I, I, I, I, O, O, I, O, O, O, O, O, O] [(0, vs 0), (2, vp 1 0), (51, .g (C_api_Address x_8.1)), (52, vs 0), (56, vs 0), (59, vs 0), (66, vb ((remp x_1704 2) == 1)), (70, vb (decide (x_1705 ≥ 2))), (71, vs 0), (74, vs 0)] rfl (by kernel_rfl) (by kernel_rfl) (by kernel_rfl) ?_
             obtain ⟨l_1708, e_l_1708, hp⟩ := bind_inv hp
             refine SD.sub (sz := 1) (E := 5) (R := R8) (by_ := 1) (l := b_1) tk D_1707 (i := 2) [I, I, I, O, O, I, O, O, I, O, O, I, I, I, I, I, I, I, I, I, I, O, O, I, O, O, O, O, O, O] rfl rfl (by kernel_rfl) rfl rfl rfl (.inl ⟨0, rfl, (by kernel_rfl)⟩) rfl rfl e_l_1708 (by kernel_rfl) ?_
             obtain ⟨l_1709, e_l_1709, hp⟩ := bind_inv hp
             refine SD.sub (sz := 1) (E := 5) (R := R8) (by_ := 1) (l := b_1) tk D_1707 (i := 6) [I, I, I, O, O, I, I, O, I, O, O, I, I, I, I, I, I, I, I, I, I, O, O, I, O, O, O, O, O, O] rfl rfl (by kernel_rfl) rfl rfl rfl (.inl ⟨0, rfl, (by kernel_rfl)⟩) rfl rfl e_l_1709 (by kernel_rfl) ?_
             obtain ⟨l_1710, e_l_1710, hp⟩ := bind_inv hp
             refine SD.sub (sz := 1) (E := 5) (R := R8) (by_ := 1) (l := b_1) tk D_1707 (i := 9) [I, I, I, O, O, I, I, O, I, I, O, I, I, I, I, I, I, I, I, I, I, O, O, I, O, O, O, O, O, O] rfl rfl (by kernel_rfl) rfl rfl rfl (.inl ⟨0, rfl, (by kernel_rfl)⟩) rfl rfl e_l_1710 (by kernel_rfl) ?_
             refine SD.norm (itsN := [.rd 1 R8 b_1, .blk 30 (C_api_Bond (T_api_Bond.mk (T_api_Identity.mk (T_api_Address.mk 0 0) 0) 0 0 false 0 false [] 0) nl), .rd 1 R8 l_7, .rd 1 R8 x_8.2.1, .blk 24 (C_api_Address x_8.1), .elt (some (0, 31)) false [ci .u8 x_1704], .elt (some (0, 31)) false [ci .u8 x_1705], .rd 1 R8 l_1708, .rd 1 R8 l_1709, .rd 1 R8 l_1710]) (by kernel_rfl) ?_
             obtain ⟨l_1711, e_l_1711, hp⟩ := bind_inv hp
             refine SD.sub (sz := 1) (E := 5) (R := R8) (by_ := 1) (l := b_1) tk D_1707 (i := 21) [I, I, I, O, O, I, I, O, I, I, O, I, I, I, I, I, I, I, I, I, I, I, O, I, O, O, O, O, O, O] rfl rfl (by kernel_rfl) rfl rfl rfl (.inl ⟨0, rfl, (by kernel_rfl)⟩) rfl rfl e_l_1711 (by kernel_rfl) ?_
             obtain ⟨l_1712, e_l_1712, hp⟩ := bind_inv hp
             refine SD.sub (sz := 1) (E := 5) (R := R8) (by_ := 1) (l := b_1) tk D_1707 (i := 24) [I, I, I, O, O, I, I, O, I, I, O, I, I, I, I, I, I, I, I, I, I, I, O, I, I, O, O, O, O, O] rfl rfl (by kernel_rfl) rfl rfl rfl (.inl ⟨0, rfl, (by kernel_rfl)⟩) rfl rfl e_l_1712 (by kernel_rfl) ?_
             obtain ⟨x_1953, e_x_1953, hp⟩ := bind_inv hp
             obtain ⟨x_2273, e_x_2273, hp⟩ := bind_inv hp
             obtain ⟨x_2513, e_x_2513, hp⟩ := bind_inv hp
             obtain ⟨x_3473, e_x_3473, hp⟩ := bind_inv hp
             obtain ⟨x_3713, e_x_3713, hp⟩ := bind_inv hp
             refine SD.lay 0 [I, I, I, I, I, I, I, I, I, I, I, I, I, I, I, I, I, I, I, I, I, I, I, I, I, I, I, I, I, I] [(0, vs 0), (2, vp 1 0), (7, vp 7 0)] [.rd 1 R8 b_1, .blk 30 (C_api_Bond (T_api_Bond.mk (T_api_Identity.mk (T_api_Address.mk 0 0) 0) 0 0 false 0 false [] 0) nl), .rd 1 R8 l_7, .rd 1 R8 x_8.2.1, .blk 24 (C_api_Address x_8.1), .elt (some (0, 31)) false [ci .u8 x_1704], .elt (some (0, 31)) false [ci .u8 x_1705], .blk 30 (C_api_Bond (T_api_Bond.mk (T_api_Identity.mk x_8.1 x_1953) x_2273 x_2513 ((remp x_1704 2) == 1) x_3473 (decide (x_1705 ≥ 2)) [] (w64 x_3713)) nl)] ?_ (fun c_1712_0 => ?_)
             · refine SD.done (by kernel_rfl) fun a w h => ?_
               exact ⟨x_1953, x_2273, x_2513, ((remp x_1704 2) == 1), x_3473, decide (x_1705 ≥ 2), w64 x_3713, hp, h.at (js := [.g 0, .g 1, .g 7]) (by kernel_rfl)⟩
             · refine SD.lay 1 [I, I, I, I, I, I, I, I, I, I, I, I, I, I, I, I, I, I, I, I, I, I, I, I, I, I, I, I, I, O] [(0, vs 0), (2, vp 1 0), (7, vp 7 0), (78, .g (C_api_Bond (T_api_Bond.mk (T_api_Identity.mk x_8.1 x_1953) x_2273 x_2513 ((remp x_1704 2) == 1) x_3473 (decide (x_1705 ≥ 2)) [] (w64 x_3713)) nl))] [.rd 1 R8 b_1, .blk 30 (C_api_Bond (T_api_Bond.mk (T_api_Identity.mk (T_api_Address.mk 0 0) 0) 0 0 false 0 false [] 0) nl), .rd 1 R8 l_7, .rd 1 R8 x_8.2.1, .blk 24 (C_api_Address x_8.1), .elt (some (0, 31)) false [ci .u8 x_1704], .elt (some (0, 31)) false [ci .u8 x_1705], .blk 30 (C_api_Bond (T_api_Bond.mk (T_api_Identity.mk (T_api_Address.mk 0 0) 0) 0 0 false 0 false [] 0) nl)] ?_ (fun c_1712_1 => ?_)
               · refine SD.all1 (i := 29) (by kernel_rfl) ?_
                 refine SW.store D_1707 tk (i := 29) (q := 7) (T := 30) (cs := (C_api_Bond (T_api_Bond.mk (T_api_Identity.mk x_8.1 x_1953) x_2273 x_2513 ((remp x_1704 2) == 1) x_3473 (decide (x_1705 ≥ 2)) [] (w64 x_3713)) nl)) (bs' := [I, I, I, I, I, I, I, I, I, I, I, I, I, I, I, I, I, I, I, I, I, I, I, I, I, I, I, I, I, I]) rfl (by kernel_rfl) rfl rfl (by kernel_rfl) ?_
                 exact SD.vie D_1707 [.g 0, .g 1, .g 2, .g 3, .g 4, .g 5, .g 6, .g 7] c_1712_0 (by kernel_rfl)
               · refine SD.lay 2 [I, I, I, I, I, I, I, I, I, I, I, I, I, I, I, I, I, I, I, I, I, I, I, I, I, I, I, I, O, O] [(0, vs 0), (2, vp 1 0), (78, .g (C_api_Bond (T_api_Bond.mk (T_api_Identity.mk x_8.1 x_1953) x_2273 x_2513 ((remp x_1704 2) == 1) x_3473 (decide (x_1705 ≥ 2)) [] (w64 x_3713)) nl))] [.rd 1 R8 b_1, .blk 30 (C_api_Bond (T_api_Bond.mk (T_api_Identity.mk (T_api_Address.mk 0 0) 0) 0 0 false 0 false [] 0) nl), .rd 1 R8 l_7, .rd 1 R8 x_8.2.1, .blk 24 (C_api_Address x_8.1), .elt (some (0, 31)) false [ci .u8 x_1704], .elt (some (0, 31)) false [ci .u8 x_1705]] ?_ (fun c_1712_2 => ?_)
                 · refine SD.all1 (i := 28) (by kernel_rfl) ?_
                   refine SW.eff D_1707 (i := 28) (bs' := [I, I, I, I, I, I, I, I, I, I, I, I, I, I, I, I, I, I, I, I, I, I, I, I, I, I, I, I, I, O]) rfl (.inl rfl) rfl (e_alloc (E := 30) tk (C_api_Bond (T_api_Bond.mk (T_api_Identity.mk (T_api_Address.mk 0 0) 0) 0 0 false 0 false [] 0) nl) (by kernel_rfl)) (by kernel_rfl) rfl (by kernel_rfl) ?_
                   exact SD.vie D_1707 [.g 0, .g 1, .g 2, .g 3, .g 4, .g 5, .g 6, .g 7] c_1712_1 (by kernel_rfl)
                 · refine SD.lay 4 [I, I, I, I, I, I, I, I, I, I, I, I, I, I, I, I, I, I, I, I, I, I, I, I, I, O, O, O, I, O] [(0, vs 0), (2, vp 1 0), (7, vp 12 0), (55, .g (C_api_Identity (T_api_Identity.mk x_8.1 x_1953))), (58, vi .u64 x_2273), (61, vi .u64 x_2513), (66, vb ((remp x_1704 2) == 1)), (70, vb (decide (x_1705 ≥ 2))), (73, vi .u64 x_3473), (75, vs 11)] [.rd 1 R8 b_1, .blk 30 (C_api_Bond (T_api_Bond.mk (T_api_Identity.mk (T_api_Address.mk 0 0) 0) 0 0 false 0 false [] 0) nl), .rd 1 R8 l_7, .rd 1 R8 x_8.2.1, .blk 24 (C_api_Address x_8.1), .elt (some (0, 31)) false [ci .u8 x_1704], .elt (some (0, 31)) false [ci .u8 x_1705], .gone, .gone, .gone, .gone, .rd 1 R8 l_1712, .blk 30 (C_api_Bond (T_api_Bond.mk (T_api_Identity.mk (T_api_Address.mk 0 0) 0) 0 0 false 0 false [] 0) nl)] ?_ (fun c_1712_3 => ?_)
                   · refine SD.all1 (i := 25) (by kernel_rfl) ?_
                     refine SW.eff D_1707 (i := 25) (bs' := [I, I, I, I, I, I, I, I, I, I, I, I, I, I, I, I, I, I, I, I, I, I, I, I, I, I, O, O, I, O]) rfl (.inl rfl) rfl (e_c Tryd.call47 (ok_wirelessref02_Value F l_1712 _ e_x_3713) [.g 11] [vs 11] (vi .u64 x_3713) (by kernel_rfl) (.inl rfl)) (by kernel_rfl) rfl (by kernel_rfl) ?_
                     refine SD.takes tk D_1707 [] kn0 [26, 27] [] [] [I, I, I, I, I, I, I, I, I, I, I, I, I, I, I, I, I, I, I, I, I, I, I, I, I, I, I, I, I, O] [(0, vs 0), (2, vp 1 0), (7, vp 12 0), (78, .g (C_api_Bond (T_api_Bond.mk (T_api_Identity.mk x_8.1 x_1953) x_2273 x_2513 ((remp x_1704 2) == 1) x_3473 (decide (x_1705 ≥ 2)) [] (w64 x_3713)) nl))] rfl (by kernel_rfl) (by kernel_rfl) (by kernel_rfl) ?_
                     exact SD.vie D_1707 [.g 0, .g 1, .g 2, .g 3, .g 4, .g 5, .g 6, .g 12] c_1712_1 (by kernel_rfl)
                   · refine SD.lay 5 [I, I, I, I, I, I, I, I, I, I, I, I, I, I, I, I, I, I, I, I, I, I, I, I, I, O, O, O, O, O] [(0, vs 0), (2, vp 1 0), (55, .g (C_api_Identity (T_api_Identity.mk x_8.1 x_1953))), (58, vi .u64 x_2273), (61, vi .u64 x_2513), (66, vb ((remp x_1704 2) == 1)), (70, vb (decide (x_1705 ≥ 2))), (73, vi .u64 x_3473), (75, vs 11)] [.rd 1 R8 b_1, .blk 30 (C_api_Bond (T_api_Bond.mk (T_api_Identity.mk (T_api_Address.mk 0 0) 0) 0 0 false 0 false [] 0) nl), .rd 1 R8 l_7, .rd 1 R8 x_8.2.1, .blk 24 (C_api_Address x_8.1), .elt (some (0, 31)) false [ci .u8 x_1704], .elt (some (0, 31)) false [ci .u8 x_1705], .gone, .gone, .gone, .gone, .rd 1 R8 l_1712] ?_ (fun c_1712_4 => ?_)
                     · refine SD.all2 (i := 25) (j := 28) (by kernel_rfl) ?_ ?_
                       · refine SW.eff D_1707 (i := 25) (bs' := [I, I, I, I, I, I, I, I, I, I, I, I, I, I, I, I, I, I, I, I, I, I, I, I, I, I, O, O, O, O]) rfl (.inl rfl) rfl (e_c Tryd.call47 (ok_wirelessref02_Value F l_1712 _ e_x_3713) [.g 11] [vs 11] (vi .u64 x_3713) (by kernel_rfl) (.inl rfl)) (by kernel_rfl) rfl (by kernel_rfl) ?_
                         refine SD.takes tk D_1707 [] kn0 [26, 27] [] [] [I, I, I, I, I, I, I, I, I, I, I, I, I, I, I, I, I, I, I, I, I, I, I, I, I, I, I, I, O, O] [(0, vs 0), (2, vp 1 0), (78, .g (C_api_Bond (T_api_Bond.mk (T_api_Identity.mk x_8.1 x_1953) x_2273 x_2513 ((remp x_1704 2) == 1) x_3473 (decide (x_1705 ≥ 2)) [] (w64 x_3713)) nl))] rfl (by kernel_rfl) (by kernel_rfl) (by kernel_rfl) ?_
                         exact SD.vie D_1707 [.g 0, .g 1, .g 2, .g 3, .g 4, .g 5, .g 6] c_1712_2 (by kernel_rfl)
                       · refine SW.eff D_1707 (i := 28) (bs' := [I, I, I, I, I, I, I, I, I, I, I, I, I, I, I, I, I, I, I, I, I, I, I, I, I, O, O, O, I, O]) rfl (.inl rfl) rfl (e_alloc (E := 30) tk (C_api_Bond (T_api_Bond.mk (T_api_Identity.mk (T_api_Address.mk 0 0) 0) 0 0 false 0 false [] 0) nl) (by kernel_rfl)) (by kernel_rfl) rfl (by kernel_rfl) ?_
                         exact SD.vie D_1707 [.g 0, .g 1, .g 2, .g 3, .g 4, .g 5, .g 6, .n, .n, .n, .n, .g 11, .g 12] c_1712_3 (by kernel_rfl)
                     · refine SD.lay 5 [I, I, I, I, I, I, I, I, I, I, I, I, I, I, I, I, I, I, I, I, I, I, O, I, I, O, O, O, I, O] [(0, vs 0), (2, vp 1 0), (7, vp 12 0), (55, .g (C_api_Identity (T_api_Identity.mk x_8.1 x_1953))), (58, vi .u64 x_2273), (61, vi .u64 x_2513), (66, vb ((remp x_1704 2) == 1)), (70, vb (decide (x_1705 ≥ 2))), (72, vs 10), (75, vs 11)] [.rd 1 R8 b_1, .blk 30 (C_api_Bond (T_api_Bond.mk (T_api_Identity.mk (T_api_Address.mk 0 0) 0) 0 0 false 0 false [] 0) nl), .rd 1 R8 l_7, .rd 1 R8 x_8.2.1, .blk 24 (C_api_Address x_8.1), .elt (some (0, 31)) false [ci .u8 x_1704], .elt (some (0, 31)) false [ci .u8 x_1705], .gone, .gone, .gone, .rd 1 R8 l_1711, .rd 1 R8 l_1712, .blk 30 (C_api_Bond (T_api_Bond.mk (T_api_Identity.mk (T_api_Address.mk 0 0) 0) 0 0 false 0 false [] 0) nl)] ?_ (fun c_1712_5 => ?_)
                       · refine SD.all1 (i := 22) (by kernel_rfl) ?_
                         refine SW.eff D_1707 (i := 22) (bs' := [I, I, I, I, I, I, I, I, I, I, I, I, I, I, I, I, I, I, I, I, I, I, I, I, I, O, O, O, I, O]) rfl (.inl rfl) rfl (e_c Tryd.call47 (ok_wirelessref02_Value F l_1711 _ e_x_3473) [.g 10] [vs 10] (vi .u64 x_3473) (by kernel_rfl) (.inl rfl)) (by kernel_rfl) rfl (by kernel_rfl) ?_
                         exact SD.vie D_1707 [.g 0, .g 1, .g 2, .g 3, .g 4, .g 5, .g 6, .n, .n, .n, .n, .g 11, .g 12] c_1712_3 (by kernel_rfl)
                       · refine SD.lay 6 [I, I, I, I, I, I, I, I, I, I, I, I, I, I, I, I, I, I, I, I, I, I, O, I, I, O, O, O, O, O] [(0, vs 0), (2, vp 1 0), (55, .g (C_api_Identity (T_api_Identity.mk x_8.1 x_1953))), (58, vi .u64 x_2273), (61, vi .u64 x_2513), (66, vb ((remp x_1704 2) == 1)), (70, vb (decide (x_1705 ≥ 2))), (72, vs 10), (75, vs 11)] [.rd 1 R8 b_1, .blk 30 (C_api_Bond (T_api_Bond.mk (T_api_Identity.mk (T_api_Address.mk 0 0) 0) 0 0 false 0 false [] 0) nl), .rd 1 R8 l_7, .rd 1 R8 x_8.2.1, .blk 24 (C_api_Address x_8.1), .elt (some (0, 31)) false [ci .u8 x_1704], .elt (some (0, 31)) false [ci .u8 x_1705], .gone, .gone, .gone, .rd 1 R8 l_1711, .rd 1 R8 l_1712] ?_ (fun c_1712_6 => ?_)
                         · refine SD.all2 (i := 22) (j := 28) (by kernel_rfl) ?_ ?_
                           · refine SW.eff D_1707 (i := 22) (bs' := [I, I, I, I, I, I, I, I, I, I, I, I, I, I, I, I, I, I, I, I, I, I, I, I, I, O, O, O, O, O]) rfl (.inl rfl) rfl (e_c Tryd.call47 (ok_wirelessref02_Value F l_1711 _ e_x_3473) [.g 10] [vs 10] (vi .u64 x_3473) (by kernel_rfl) (.inl rfl)) (by kernel_rfl) rfl (by kernel_rfl) ?_
                             exact SD.vie D_1707 [.g 0, .g 1, .g 2, .g 3, .g 4, .g 5, .g 6, .n, .n, .n, .n, .g 11] c_1712_4 (by kernel_rfl)
                           · refine SW.eff D_1707 (i := 28) (bs' := [I, I, I, I, I, I, I, I, I, I, I, I, I, I, I, I, I, I, I, I, I, I, O, I, I, O, O, O, I, O]) rfl (.inl rfl) rfl (e_alloc (E := 30) tk (C_api_Bond (T_api_Bond.mk (T_api_Identity.mk (T_api_Address.mk 0 0) 0) 0 0 false 0 false [] 0) nl) (by kernel_rfl)) (by kernel_rfl) rfl (by kernel_rfl) ?_
                             exact SD.vie D_1707 [.g 0, .g 1, .g 2, .g 3, .g 4, .g 5, .g 6, .n, .n, .n, .g 10, .g 11, .g 12] c_1712_5 (by kernel_rfl)
                         · refine SD.lay 6 [I, I, I, I, I, I, I, I, I, I, O, I, I, I, I, I, I, I, I, I, I, I, O, I, I, O, O, O, I, O] [(0, vs 0), (2, vp 1 0), (7, vp 12 0), (55, .g (C_api_Identity (T_api_Identity.mk x_8.1 x_1953))), (58, vi .u64 x_2273), (60, vs 9), (66, vb ((remp x_1704 2) == 1)), (70, vb (decide (x_1705 ≥ 2))), (72, vs 10), (75, vs 11)] [.rd 1 R8 b_1, .blk 30 (C_api_Bond (T_api_Bond.mk (T_api_Identity.mk (T_api_Address.mk 0 0) 0) 0 0 false 0 false [] 0) nl), .rd 1 R8 l_7, .rd 1 R8 x_8.2.1, .blk 24 (C_api_Address x_8.1), .elt (some (0, 31)) false [ci .u8 x_1704], .elt (some (0, 31)) false [ci .u8 x_1705], .gone, .gone, .rd 1 R8 l_1710, .rd 1 R8 l_1711, .rd 1 R8 l_1712, .blk 30 (C_api_Bond (T_api_Bond.mk (T_api_Identity.mk (T_api_Address.mk 0 0) 0) 0 0 false 0 false [] 0) nl)] ?_ (fun c_1712_7 => ?_)
                           · refine SD.all1 (i := 10) (by kernel_rfl) ?_
                             refine SW.eff D_1707 (i := 10) (bs' := [I, I, I, I, I, I, I, I, I, I, I, I, I, I, I, I, I, I, I, I, I, I, O, I, I, O, O, O, I, O]) rfl (.inl rfl) rfl (e_c Tryd.call47 (ok_wirelessref02_Value F l_1710 _ e_x_2513) [.g 9] [vs 9] (vi .u64 x_2513) (by kernel_rfl) (.inl rfl)) (by kernel_rfl) rfl (by kernel_rfl) ?_
                             exact SD.vie D_1707 [.g 0, .g 1, .g 2, .g 3, .g 4, .g 5, .g 6, .n, .n, .n, .g 10, .g 11, .g 12] c_1712_5 (by kernel_rfl)
                           · refine SD.lay 7 [I, I, I, I, I, I, I, I, I, I, O, I, I, I, I, I, I, I, I, I, I, I, O, I, I, O, O, O, O, O] [(0, vs 0), (2, vp 1 0), (55, .g (C_api_Identity (T_api_Identity.mk x_8.1 x_1953))), (58, vi .u64 x_2273), (60, vs 9), (66, vb ((remp x_1704 2) == 1)), (70, vb (decide (x_1705 ≥ 2))), (72, vs 10), (75, vs 11)] [.rd 1 R8 b_1, .blk 30 (C_api_Bond (T_api_Bond.mk (T_api_Identity.mk (T_api_Address.mk 0 0) 0) 0 0 false 0 false [] 0) nl), .rd 1 R8 l_7, .rd 1 R8 x_8.2.1, .blk 24 (C_api_Address x_8.1), .elt (some (0, 31)) false [ci .u8 x_1704], .elt (some (0, 31)) false [ci .u8 x_1705], .gone, .gone, .rd 1 R8 l_1710, .rd 1 R8 l_1711, .rd 1 R8 l_1712] ?_ (fun c_1712_8 => ?_)
                             · refine SD.all2 (i := 10) (j := 28) (by kernel_rfl) ?_ ?_
                               · refine SW.eff D_1707 (i := 10) (bs' := [I, I, I, I, I, I, I, I, I, I, I, I, I, I, I, I, I, I, I, I, I, I, O, I, I, O, O, O, O, O]) rfl (.inl rfl) rfl (e_c Tryd.call47 (ok_wirelessref02_Value F l_1710 _ e_x_2513) [.g 9] [vs 9] (vi .u64 x_2513) (by kernel_rfl) (.inl rfl)) (by kernel_rfl) rfl (by kernel_rfl) ?_
                                 exact SD.vie D_1707 [.g 0, .g 1, .g 2, .g 3, .g 4, .g 5, .g 6, .n, .n, .n, .g 10, .g 11] c_1712_6 (by kernel_rfl)
                               · refine SW.eff D_1707 (i := 28) (bs' := [I, I, I, I, I, I, I, I, I, I, O, I, I, I, I, I, I, I, I, I, I, I, O, I, I, O, O, O, I, O]) rfl (.inl rfl) rfl (e_alloc (E := 30) tk (C_api_Bond (T_api_Bond.mk (T_api_Identity.mk (T_api_Address.mk 0 0) 0) 0 0 false 0 false [] 0) nl) (by kernel_rfl)) (by kernel_rfl) rfl (by kernel_rfl) ?_
                                 exact SD.vie D_1707 [.g 0, .g 1, .g 2, .g 3, .g 4, .g 5, .g 6, .n, .n, .g 9, .g 10, .g 11, .g 12] c_1712_7 (by kernel_rfl)
                             · refine SD.lay 7 [I, I, I, I, I, I, I, O, I, I, O, I, I, I, I, I, I, I, I, I, I, I, O, I, I, O, O, O, I, O] [(0, vs 0), (2, vp 1 0), (7, vp 12 0), (55, .g (C_api_Identity (T_api_Identity.mk x_8.1 x_1953))), (57, vs 8), (60, vs 9), (66, vb ((remp x_1704 2) == 1)), (70, vb (decide (x_1705 ≥ 2))), (72, vs 10), (75, vs 11)] [.rd 1 R8 b_1, .blk 30 (C_api_Bond (T_api_Bond.mk (T_api_Identity.mk (T_api_Address.mk 0 0) 0) 0 0 false 0 false [] 0) nl), .rd 1 R8 l_7, .rd 1 R8 x_8.2.1, .blk 24 (C_api_Address x_8.1), .elt (some (0, 31)) false [ci .u8 x_1704], .elt (some (0, 31)) false [ci .u8 x_1705], .gone, .rd 1 R8 l_1709, .rd 1 R8 l_1710, .rd 1 R8 l_1711, .rd 1 R8 l_1712, .blk 30 (C_api_Bond (T_api_Bond.mk (T_api_Identity.mk (T_api_Address.mk 0 0) 0) 0 0 false 0 false [] 0) nl)] ?_ (fun c_1712_9 => ?_)
                               · refine SD.all1 (i := 7) (by kernel_rfl) ?_
                                 refine SW.eff D_1707 (i := 7) (bs' := [I, I, I, I, I, I, I, I, I, I, O, I, I, I, I, I, I, I, I, I, I, I, O, I, I, O, O, O, I, O]) rfl (.inl rfl) rfl (e_c Tryd.call47 (ok_wirelessref02_Value F l_1709 _ e_x_2273) [.g 8] [vs 8] (vi .u64 x_2273) (by kernel_rfl) (.inl rfl)) (by kernel_rfl) rfl (by kernel_rfl) ?_
                                 exact SD.vie D_1707 [.g 0, .g 1, .g 2, .g 3, .g 4, .g 5, .g 6, .n, .n, .g 9, .g 10, .g 11, .g 12] c_1712_7 (by kernel_rfl)
                               · refine SD.lay 8 [I, I, I, I, I, I, I, O, I, I, O, I, I, I, I, I, I, I, I, I, I, I, O, I, I, O, O, O, O, O] [(0, vs 0), (2, vp 1 0), (55, .g (C_api_Identity (T_api_Identity.mk x_8.1 x_1953))), (57, vs 8), (60, vs 9), (66, vb ((remp x_1704 2) == 1)), (70, vb (decide (x_1705 ≥ 2))), (72, vs 10), (75, vs 11)] [.rd 1 R8 b_1, .blk 30 (C_api_Bond (T_api_Bond.mk (T_api_Identity.mk (T_api_Address.mk 0 0) 0) 0 0 false 0 false [] 0) nl), .rd 1 R8 l_7, .rd 1 R8 x_8.2.1, .blk 24 (C_api_Address x_8.1), .elt (some (0, 31)) false [ci .u8 x_1704], .elt (some (0, 31)) false [ci .u8 x_1705], .gone, .rd 1 R8 l_1709, .rd 1 R8 l_1710, .rd 1 R8 l_1711, .rd 1 R8 l_1712] ?_ (fun c_1712_10 => ?_)
                                 · refine SD.all2 (i := 7) (j := 28) (by kernel_rfl) ?_ ?_
                                   · refine SW.eff D_1707 (i := 7) (bs' := [I, I, I, I, I, I, I, I, I, I, O, I, I, I, I, I, I, I, I, I, I, I, O, I, I, O, O, O, O, O]) rfl (.inl rfl) rfl (e_c Tryd.call47 (ok_wirelessref02_Value F l_1709 _ e_x_2273) [.g 8] [vs 8] (vi .u64 x_2273) (by kernel_rfl) (.inl rfl)) (by kernel_rfl) rfl (by kernel_rfl) ?_
                                     exact SD.vie D_1707 [.g 0, .g 1, .g 2, .g 3, .g 4, .g 5, .g 6, .n, .n, .g 9, .g 10, .g 11] c_1712_8 (by kernel_rfl)
                                   · refine SW.eff D_1707 (i := 28) (bs' := [I, I, I, I, I, I, I, O, I, I, O, I, I, I, I, I, I, I, I, I, I, I, O, I, I, O, O, O, I, O]) rfl (.inl rfl) rfl (e_alloc (E := 30) tk (C_api_Bond (T_api_Bond.mk (T_api_Identity.mk (T_api_Address.mk 0 0) 0) 0 0 false 0 false [] 0) nl) (by kernel_rfl)) (by kernel_rfl) rfl (by kernel_rfl) ?_
                                     exact SD.vie D_1707 [.g 0, .g 1, .g 2, .g 3, .g 4, .g 5, .g 6, .n, .g 8, .g 9, .g 10, .g 11, .g 12] c_1712_9 (by kernel_rfl)
                                 · refine SD.lay 9 [I, I, I, O, O, I, I, O, I, I, O, I, I, I, I, I, I, I, I, I, I, I, O, I, I, O, O, O, I, O] [(0, vs 0), (2, vp 1 0), (7, vp 12 0), (51, .g (C_api_Address x_8.1)), (53, vs 7), (57, vs 8), (60, vs 9), (66, vb ((remp x_1704 2) == 1)), (70, vb (decide (x_1705 ≥ 2))), (72, vs 10), (75, vs 11)] [.rd 1 R8 b_1, .blk 30 (C_api_Bond (T_api_Bond.mk (T_api_Identity.mk (T_api_Address.mk 0 0) 0) 0 0 false 0 false [] 0) nl), .rd 1 R8 l_7, .rd 1 R8 x_8.2.1, .blk 24 (C_api_Address x_8.1), .elt (some (0, 31)) false [ci .u8 x_1704], .elt (some (0, 31)) false [ci .u8 x_1705], .rd 1 R8 l_1708, .rd 1 R8 l_1709, .rd 1 R8 l_1710, .rd 1 R8 l_1711, .rd 1 R8 l_1712, .blk 30 (C_api_Bond (T_api_Bond.mk (T_api_Identity.mk (T_api_Address.mk 0 0) 0) 0 0 false 0 false [] 0) nl)] ?_ (fun c_1712_11 => ?_)
                                   · refine SD.all1 (i := 3) (by kernel_rfl) ?_
                                     refine SW.eff D_1707 (i := 3) (bs' := [I, I, I, I, O, I, I, O, I, I, O, I, I, I, I, I, I, I, I, I, I, I, O, I, I, O, O, O, I, O]) rfl (.inl rfl) rfl (e_c Tryd.call47 (ok_wirelessref02_Value F l_1708 _ e_x_1953) [.g 7] [vs 7] (vi .u64 x_1953) (by kernel_rfl) (.inl rfl)) (by kernel_rfl) rfl (by kernel_rfl) ?_
                                     refine SD.takes tk D_1707 [] kn0 [4] [] [] [I, I, I, I, I, I, I, O, I, I, O, I, I, I, I, I, I, I, I, I, I, I, O, I, I, O, O, O, I, O] [(0, vs 0), (2, vp 1 0), (7, vp 12 0), (55, .g (C_api_Identity (T_api_Identity.mk x_8.1 x_1953))), (57, vs 8), (60, vs 9), (66, vb ((remp x_1704 2) == 1)), (70, vb (decide (x_1705 ≥ 2))), (72, vs 10), (75, vs 11)] rfl (by kernel_rfl) (by kernel_rfl) (by kernel_rfl) ?_
                                     exact SD.vie D_1707 [.g 0, .g 1, .g 2, .g 3, .g 4, .g 5, .g 6, .n, .g 8, .g 9, .g 10, .g 11, .g 12] c_1712_9 (by kernel_rfl)
                                   · refine SD.all2 (i := 3) (j := 28) (by kernel_rfl) ?_ ?_
                                     · refine SW.eff D_1707 (i := 3) (bs' := [I, I, I, I, O, I, I, O, I, I, O, I, I, I, I, I, I, I, I, I, I, I, O, I, I, O, O, O, O, O]) rfl (.inl rfl) rfl (e_c Tryd.call47 (ok_wirelessref02_Value F l_1708 _ e_x_1953) [.g 7] [vs 7] (vi .u64 x_1953) (by kernel_rfl) (.inl rfl)) (by kernel_rfl) rfl (by kernel_rfl) ?_
                                       refine SD.norm (itsN := [.rd 1 R8 b_1, .blk 30 (C_api_Bond (T_api_Bond.mk (T_api_Identity.mk (T_api_Address.mk 0 0) 0) 0 0 false 0 false [] 0) nl), .rd 1 R8 l_7, .rd 1 R8 x_8.2.1, .blk 24 (C_api_Address x_8.1), .elt (some (0, 31)) false [ci .u8 x_1704], .elt (some (0, 31)) false [ci .u8 x_1705], .rd 1 R8 l_1708, .rd 1 R8 l_1709, .rd 1 R8 l_1710, .rd 1 R8 l_1711, .rd 1 R8 l_1712]) (by kernel_rfl) ?_
                                       refine SD.takes tk D_1707 [] kn0 [4] [] [] [I, I, I, I, I, I, I, O, I, I, O, I, I, I, I, I, I, I, I, I, I, I, O, I, I, O, O, O, O, O] [(0, vs 0), (2, vp 1 0), (55, .g (C_api_Identity (T_api_Identity.mk x_8.1 x_1953))), (57, vs 8), (60, vs 9), (66, vb ((remp x_1704 2) == 1)), (70, vb (decide (x_1705 ≥ 2))), (72, vs 10), (75, vs 11)] rfl (by kernel_rfl) (by kernel_rfl) (by kernel_rfl) ?_
                                       exact SD.vie D_1707 [.g 0, .g 1, .g 2, .g 3, .g 4, .g 5, .g 6, .n, .g 8, .g 9, .g 10, .g 11] c_1712_10 (by kernel_rfl)
                                     · refine SW.eff D_1707 (i := 28) (bs' := [I, I, I, O, O, I, I, O, I, I, O, I, I, I, I, I, I, I, I, I, I, I, O, I, I, O, O, O, I, O]) rfl (.inl rfl) rfl (e_alloc (E := 30) tk (C_api_Bond (T_api_Bond.mk (T_api_Identity.mk (T_api_Address.mk 0 0) 0) 0 0 false 0 false [] 0) nl) (by kernel_rfl)) (by kernel_rfl) rfl (by kernel_rfl) ?_
                                       refine SD.norm (itsN := [.rd 1 R8 b_1, .blk 30 (C_api_Bond (T_api_Bond.mk (T_api_Identity.mk (T_api_Address.mk 0 0) 0) 0 0 false 0 false [] 0) nl), .rd 1 R8 l_7, .rd 1 R8 x_8.2.1, .blk 24 (C_api_Address x_8.1), .elt (some (0, 31)) false [ci .u8 x_1704], .elt (some (0, 31)) false [ci .u8 x_1705], .rd 1 R8 l_1708, .rd 1 R8 l_1709, .rd 1 R8 l_1710, .rd 1 R8 l_1711, .rd 1 R8 l_1712, .blk 30 (C_api_Bond (T_api_Bond.mk (T_api_Identity.mk (T_api_Address.mk 0 0) 0) 0 0 false 0 false [] 0) nl)]) (by kernel_rfl) ?_
                                       exact SD.vie D_1707 [.g 0, .g 1, .g 2, .g 3, .g 4, .g 5, .g 6, .g 7, .g 8, .g 9, .g 10, .g 11, .g 12] c_1712_11 (by kernel_rfl)
           · rintro a w ⟨x_9, x_10, x_11, z_12, x_13, z_14, x_15, hp, h⟩
             refine h.go ?_
             refine SC.cut (fun a w => ∃ (l_16 : (List T_api_Subscription)), wirelessref40_Decode_j2 F x_8 x_9 x_10 x_11 z_12 x_13 z_14 x_15 l_16 = some r ∧ A 111 1 fx [(2, vp 1 0), (7, vp 2 0)] [.gone, .blk 30 (C_api_Bond (T_api_Bond.mk (T_api_Identity.mk (T_api_Address.mk 0 0) 0) 0 0 false 0 false [] 0) nl), .blk 30 (C_api_Bond (T_api_Bond.mk (T_api_Identity.mk x_8.1 x_9) x_10 x_11 z_12 x_13 z_14 l_16 x_15) (.s 3)), .own 2 89 R_T_api_Subscription l_16] a w) ?_ ?_
             · refine SC.r tk [(0, vs 0), (2, vp 1 0), (7, vp 2 0), (8, vi .i64 45)] [] [] [] (by kernel_rfl) ?_
               refine SC.block ?_
               obtain ⟨o1, hi1, ho1⟩ := bind_inv hp
               clear hp
               refine SC.loop (fun n a w => ∃ (l_18 : (List T_api_Subscription)) (x_19 : Int), iter (fun s => wirelessref40_Decode_l1 F b_1 s.1 s.2) n (l_18, x_19) = some o1 ∧ A 111 1 fx [(0, vs 0), (2, vp 1 0), (7, vp 2 0), (8, vi .i64 x_19)] [.rd 1 R8 b_1, .blk 30 (C_api_Bond (T_api_Bond.mk (T_api_Identity.mk (T_api_Address.mk 0 0) 0) 0 0 false 0 false [] 0) nl), .blk 30 (C_api_Bond (T_api_Bond.mk (T_api_Identity.mk x_8.1 x_9) x_10 x_11 z_12 x_13 z_14 l_18 x_15) (.s 3)), .own 2 89 R_T_api_Subscription l_18] a w) F (fun a w h => ⟨[], 45, hi1, h.at (js := [.g 0, .g 1, .g 2, .n]) (by kernel_rfl)⟩) ?_
               rintro n1 a w ⟨l_18, x_19, hi1, h⟩
               obtain ⟨n1, q1, rfl, hp, hs1⟩ := iter_inv hi1
               replace hp : wirelessref40_Decode_l1 F b_1 l_18 x_19 = some q1 := hp
               clear hi1
               refine h.go ?_
               refine SC.seq ?_
               refine SC.r tk [(0, vs 0), (2, vp 1 0), (7, vp 2 0), (8, vi .i64 x_19), (82, vb (decide (x_19 < (len b_1))))] [] [] [] (by kernel_rfl) ?_
               refine SC.if' rfl hp (fun hp => ?_) (fun hp => ?_)
               · refine SC.skipThen ?_
                 refine SC.seq ?_
                 refine SC.block ?_
                 obtain ⟨x_20, e_x_20, hp⟩ := bind_inv hp
                 refine SC.pre (pre_ix (i := 0) (iv := w64 (x_19 + 2)) (sz := 1) (R := R8) (l := b_1) (by kernel_rfl) rfl e_x_20) ?_
                 refine SC.draw MO [true, true, false, false, true] (by kernel_rfl) fun kap_21 D_22 => ?_
                 refine SD.takes tk D_22 [] kn0 [2, 3, 4, 5, 9, 10, 11, 12, 13, 14] [.el 4] [w64 (x_19 + 2)] [O, O, I, I, I, I, O, O, O, I, I, I, I, I, I, O, O, O, O, O] [(0, vs 0), (2, vp 1 0), (7, vp 2 0), (8, vi .i64 x_19), (87, vs 0), (88, vi .i64 x_19), (90, vi .i64 (w64 (x_19 + 2))), (99, vi .i64 (w64 x_20))] rfl (by kernel_rfl) (by kernel_rfl) (by kernel_rfl) ?_
                 obtain ⟨l_23, e_l_23, hp⟩ := bind_inv hp
                 refine SD.sub (sz := 1) (E := 5) (R := R8) (by_ := 1) (l := b_1) tk D_22 (i := 6) [O, O, I, I, I, I, I, O, O, I, I, I, I, I, I, O, O, O, O, O] rfl rfl (by kernel_rfl) rfl rfl rfl (.inl ⟨0, rfl, (by kernel_rfl)⟩) rfl rfl e_l_23 (by kernel_rfl) ?_
                 obtain ⟨x_584, e_x_584, hp⟩ := bind_inv hp
                 obtain ⟨l_1384, e_l_1384, hp⟩ := bind_inv hp
                 refine SD.lay 0 [I, I, I, I, I, I, I, I, I, I, I, I, I, I, I, I, I, I, I, I] [(0, vs 0), (2, vp 1 0), (7, vp 2 0), (8, vi .i64 x_19)] [.rd 1 R8 b_1, .blk 30 (C_api_Bond (T_api_Bond.mk (T_api_Identity.mk (T_api_Address.mk 0 0) 0) 0 0 false 0 false [] 0) nl), .blk 30 (C_api_Bond (T_api_Bond.mk (T_api_Identity.mk x_8.1 x_9) x_10 x_11 z_12 x_13 z_14 l_1384 x_15) (.s 6)), .gone, .elt (some (0, w64 (x_19 + 2))) false [ci .u8 x_20], .gone, .own 2 89 R_T_api_Subscription l_1384] ?_ (fun c_23_0 => ?_)
                 · refine SD.doneThen (by kernel_rfl) ?_
                   refine SC.reg ?_
                   refine SL.sim tk 3 [(0, vs 0), (2, vp 1 0), (7, vp 2 0), (8, vi .i64 (w64 (x_19 + 3)))] [] [] [] (by kernel_rfl) ?_
                   refine SL.nilJ fun a w h => ?_
                   exact ⟨n1, Nat.lt_succ_self _, l_1384, w64 (x_19 + 3), next_inv hp hs1, h.at (js := [.g 0, .g 1, .g 2, .g 6]) (by kernel_rfl)⟩
                 · refine SD.lay 1 [I, I, I, I, I, I, I, I, I, I, I, I, I, I, I, I, I, I, I, O] [(0, vs 0), (2, vp 1 0), (7, vp 2 0), (8, vi .i64 x_19), (102, vs 6), (103, vp 2 8)] [.rd 1 R8 b_1, .blk 30 (C_api_Bond (T_api_Bond.mk (T_api_Identity.mk (T_api_Address.mk 0 0) 0) 0 0 false 0 false [] 0) nl), .blk 30 [ci .i64 x_8.1.Kind, ci .u64 x_8.1.Bits, ci .u64 x_9, ci .u64 x_10, ci .u64 x_11, cb z_12, ci .u64 x_13, cb z_14, .s 3, ci .i64 x_15], .gone, .elt (some (0, w64 (x_19 + 2))) false [ci .u8 x_20], .gone, .own 2 89 R_T_api_Subscription l_1384] ?_ (fun c_23_1 => ?_)
                   · refine SD.all1 (i := 19) (by kernel_rfl) ?_
                     refine SW.store D_22 tk (i := 19) (q := 2) (T := 30) (cs := (C_api_Bond (T_api_Bond.mk (T_api_Identity.mk x_8.1 x_9) x_10 x_11 z_12 x_13 z_14 l_1384 x_15) (.s 6))) (bs' := [I, I, I, I, I, I, I, I, I, I, I, I, I, I, I, I, I, I, I, I]) rfl (by kernel_rfl) rfl rfl (by kernel_rfl) ?_
                     exact SD.vie D_22 [.g 0, .g 1, .g 2, .g 3, .g 4, .n, .g 6] c_23_0 (by kernel_rfl)
                   · refine SD.lay 2 [I, I, I, I, I, I, I, I, I, I, I, I, I, I, I, I, I, I, O, O] [(0, vs 0), (2, vp 1 0), (7, vp 2 0), (8, vi .i64 x_19), (102, vs 6)] [.rd 1 R8 b_1, .blk 30 (C_api_Bond (T_api_Bond.mk (T_api_Identity.mk (T_api_Address.mk 0 0) 0) 0 0 false 0 false [] 0) nl), .blk 30 [ci .i64 x_8.1.Kind, ci .u64 x_8.1.Bits, ci .u64 x_9, ci .u64 x_10, ci .u64 x_11, cb z_12, ci .u64 x_13, cb z_14, .s 3, ci .i64 x_15], .gone, .elt (some (0, w64 (x_19 + 2))) false [ci .u8 x_20], .gone, .own 2 89 R_T_api_Subscription l_1384] ?_ (fun c_23_2 => ?_)
                     · refine SD.all1 (i := 18) (by kernel_rfl) ?_
                       refine SW.eff D_22 (i := 18) (v := vp 2 8) (bs' := [I, I, I, I, I, I, I, I, I, I, I, I, I, I, I, I, I, I, I, O]) rfl (.inl rfl) rfl (e_val tk (by kernel_rfl)) (by kernel_rfl) rfl (by kernel_rfl) ?_
                       exact SD.vie D_22 [.g 0, .g 1, .g 2, .g 3, .g 4, .n, .g 6] c_23_1 (by kernel_rfl)
                     · refine SD.lay 3 [I, I, I, I, I, I, I, I, I, I, I, I, I, I, I, I, I, O, O, O] [(0, vs 0), (2, vp 1 0), (7, vp 2 0), (8, vi .i64 x_19), (86, vs 3), (101, vs 5)] [.rd 1 R8 b_1, .blk 30 (C_api_Bond (T_api_Bond.mk (T_api_Identity.mk (T_api_Address.mk 0 0) 0) 0 0 false 0 false [] 0) nl), .blk 30 (C_api_Bond (T_api_Bond.mk (T_api_Identity.mk x_8.1 x_9) x_10 x_11 z_12 x_13 z_14 l_18 x_15) (.s 3)), .own 2 89 R_T_api_Subscription l_18, .elt (some (0, w64 (x_19 + 2))) false [ci .u8 x_20], .own 2 89 R_T_api_Subscription [(T_api_Subscription.mk (wu16 x_584) (w64 x_20))]] ?_ (fun c_23_3 => ?_)
                       · refine SD.all1 (i := 17) (by kernel_rfl) ?_
                         refine SW.eff D_22 (i := 17) (bs' := [I, I, I, I, I, I, I, I, I, I, I, I, I, I, I, I, I, I, O, O]) rfl (.inl rfl) rfl (e_app (i := 3) (l := l_18) (sz := 2) (E := 89) (R := R_T_api_Subscription) (by_ := 16) (m := [(T_api_Subscription.mk (wu16 x_584) (w64 x_20))]) tk rfl (by kernel_rfl) rfl (.o 89 (by kernel_rfl)) e_l_1384 (by kernel_rfl)) (by kernel_rfl) rfl (by kernel_rfl) ?_
                         exact SD.vie D_22 [.g 0, .g 1, .g 2, .g 3, .g 4, .n, .g 6] c_23_2 (by kernel_rfl)
                       · refine SD.lay 4 [I, I, I, I, I, I, I, I, I, I, I, I, I, I, I, I, O, O, O, O] [(0, vs 0), (2, vp 1 0), (7, vp 2 0), (8, vi .i64 x_19), (86, vs 3), (100, .g [ci .u16 (wu16 x_584), ci .i64 (w64 x_20)])] [.rd 1 R8 b_1, .blk 30 (C_api_Bond (T_api_Bond.mk (T_api_Identity.mk (T_api_Address.mk 0 0) 0) 0 0 false 0 false [] 0) nl), .blk 30 (C_api_Bond (T_api_Bond.mk (T_api_Identity.mk x_8.1 x_9) x_10 x_11 z_12 x_13 z_14 l_18 x_15) (.s 3)), .own 2 89 R_T_api_Subscription l_18, .elt (some (0, w64 (x_19 + 2))) false [ci .u8 x_20]] ?_ (fun c_23_4 => ?_)
                         · refine SD.all1 (i := 16) (by kernel_rfl) ?_
                           refine SW.eff D_22 (i := 16) (bs' := [I, I, I, I, I, I, I, I, I, I, I, I, I, I, I, I, I, O, O, O]) rfl (.inl rfl) rfl (e_lit (sz := 2) (E := 89) (R := R_T_api_Subscription) (by_ := 16) tk [[ci .u16 (wu16 x_584), ci .i64 (w64 x_20)]] [(T_api_Subscription.mk (wu16 x_584) (w64 x_20))] (by kernel_rfl) ⟨(clo_T_api_Subscription (x := (T_api_Subscription.mk (wu16 x_584) (w64 x_20)))), trivial⟩ rfl (by kernel_rfl) (by kernel_rfl)) (by kernel_rfl) rfl (by kernel_rfl) ?_
                           exact SD.vie D_22 [.g 0, .g 1, .g 2, .g 3, .g 4, .g 5] c_23_3 (by kernel_rfl)
                         · refine SD.lay 7 [I, I, I, I, I, I, I, O, O, I, I, I, I, I, I, O, O, O, O, O] [(0, vs 0), (2, vp 1 0), (7, vp 2 0), (8, vi .i64 x_19), (86, vs 3), (91, vs 5), (99, vi .i64 (w64 x_20))] [.rd 1 R8 b_1, .blk 30 (C_api_Bond (T_api_Bond.mk (T_api_Identity.mk (T_api_Address.mk 0 0) 0) 0 0 false 0 false [] 0) nl), .blk 30 (C_api_Bond (T_api_Bond.mk (T_api_Identity.mk x_8.1 x_9) x_10 x_11 z_12 x_13 z_14 l_18 x_15) (.s 3)), .own 2 89 R_T_api_Subscription l_18, .elt (some (0, w64 (x_19 + 2))) false [ci .u8 x_20], .rd 1 R8 l_23] ?_ (fun c_23_5 => ?_)
                           · refine SD.all1 (i := 7) (by kernel_rfl) ?_
                             refine SW.eff D_22 (i := 7) (bs' := [I, I, I, I, I, I, I, I, O, I, I, I, I, I, I, O, O, O, O, O]) rfl (.inl rfl) rfl (e_c Tryd.call47 (ok_wirelessref02_Value F l_23 _ e_x_584) [.g 5] [vs 5] (vi .u64 x_584) (by kernel_rfl) (.inl rfl)) (by kernel_rfl) rfl (by kernel_rfl) ?_
                             refine SD.takes tk D_22 [] kn0 [8, 15] [] [] [I, I, I, I, I, I, I, I, I, I, I, I, I, I, I, I, O, O, O, O] [(0, vs 0), (2, vp 1 0), (7, vp 2 0), (8, vi .i64 x_19), (86, vs 3), (100, .g [ci .u16 (wu16 x_584), ci .i64 (w64 x_20)])] rfl (by kernel_rfl) (by kernel_rfl) (by kernel_rfl) ?_
                             exact SD.vie D_22 [.g 0, .g 1, .g 2, .g 3, .g 4] c_23_4 (by kernel_rfl)
                           · refine SD.lay 4 [I, O, I, I, I, I, I, I, I, I, I, I, I, I, I, I, I, O, O, O] [(0, vs 0), (2, vp 1 0), (7, vp 2 0), (8, vi .i64 x_19), (85, vp 2 8), (101, vs 5)] [.rd 1 R8 b_1, .blk 30 (C_api_Bond (T_api_Bond.mk (T_api_Identity.mk (T_api_Address.mk 0 0) 0) 0 0 false 0 false [] 0) nl), .blk 30 (C_api_Bond (T_api_Bond.mk (T_api_Identity.mk x_8.1 x_9) x_10 x_11 z_12 x_13 z_14 l_18 x_15) (.s 3)), .own 2 89 R_T_api_Subscription l_18, .elt (some (0, w64 (x_19 + 2))) false [ci .u8 x_20], .own 2 89 R_T_api_Subscription [(T_api_Subscription.mk (wu16 x_584) (w64 x_20))]] ?_ (fun c_23_6 => ?_)
                             · refine SD.all1 (i := 1) (by kernel_rfl) ?_
                               refine SW.eff D_22 (i := 1) (v := vs 3) (bs' := [I, I, I, I, I, I, I, I, I, I, I, I, I, I, I, I, I, O, O, O]) rfl (.inl rfl) rfl (e_val tk (by kernel_rfl)) (by kernel_rfl) rfl (by kernel_rfl) ?_
                               exact SD.vie D_22 [.g 0, .g 1, .g 2, .g 3, .g 4, .g 5] c_23_3 (by kernel_rfl)
                             · refine SD.lay 5 [I, O, I, I, I, I, I, I, I, I, I, I, I, I, I, I, O, O, O, O] [(0, vs 0), (2, vp 1 0), (7, vp 2 0), (8, vi .i64 x_19), (85, vp 2 8), (100, .g [ci .u16 (wu16 x_584), ci .i64 (w64 x_20)])] [.rd 1 R8 b_1, .blk 30 (C_api_Bond (T_api_Bond.mk (T_api_Identity.mk (T_api_Address.mk 0 0) 0) 0 0 false 0 false [] 0) nl), .blk 30 (C_api_Bond (T_api_Bond.mk (T_api_Identity.mk x_8.1 x_9) x_10 x_11 z_12 x_13 z_14 l_18 x_15) (.s 3)), .own 2 89 R_T_api_Subscription l_18, .elt (some (0, w64 (x_19 + 2))) false [ci .u8 x_20]] ?_ (fun c_23_7 => ?_)
                               · refine SD.all2 (i := 1) (j := 16) (by kernel_rfl) ?_ ?_
                                 · refine SW.eff D_22 (i := 1) (v := vs 3) (bs' := [I, I, I, I, I, I, I, I, I, I, I, I, I, I, I, I, O, O, O, O]) rfl (.inl rfl) rfl (e_val tk (by kernel_rfl)) (by kernel_rfl) rfl (by kernel_rfl) ?_
                                   exact SD.vie D_22 [.g 0, .g 1, .g 2, .g 3, .g 4] c_23_4 (by kernel_rfl)
                                 · refine SW.eff D_22 (i := 16) (bs' := [I, O, I, I, I, I, I, I, I, I, I, I, I, I, I, I, I, O, O, O]) rfl (.inl rfl) rfl (e_lit (sz := 2) (E := 89) (R := R_T_api_Subscription) (by_ := 16) tk [[ci .u16 (wu16 x_584), ci .i64 (w64 x_20)]] [(T_api_Subscription.mk (wu16 x_584) (w64 x_20))] (by kernel_rfl) ⟨(clo_T_api_Subscription (x := (T_api_Subscription.mk (wu16 x_584) (w64 x_20)))), trivial⟩ rfl (by kernel_rfl) (by kernel_rfl)) (by kernel_rfl) rfl (by kernel_rfl) ?_
                                   exact SD.vie D_22 [.g 0, .g 1, .g 2, .g 3, .g 4, .g 5] c_23_6 (by kernel_rfl)
                               · refine SD.lay 8 [I, O, I, I, I, I, I, O, O, I, I, I, I, I, I, O, O, O, O, O] [(0, vs 0), (2, vp 1 0), (7, vp 2 0), (8, vi .i64 x_19), (85, vp 2 8), (91, vs 5), (99, vi .i64 (w64 x_20))] [.rd 1 R8 b_1, .blk 30 (C_api_Bond (T_api_Bond.mk (T_api_Identity.mk (T_api_Address.mk 0 0) 0) 0 0 false 0 false [] 0) nl), .blk 30 (C_api_Bond (T_api_Bond.mk (T_api_Identity.mk x_8.1 x_9) x_10 x_11 z_12 x_13 z_14 l_18 x_15) (.s 3)), .own 2 89 R_T_api_Subscription l_18, .elt (some (0, w64 (x_19 + 2))) false [ci .u8 x_20], .rd 1 R8 l_23] ?_ (fun c_23_8 => ?_)
                                 · refine SD.all2 (i := 1) (j := 7) (by kernel_rfl) ?_ ?_
                                   · refine SW.eff D_22 (i := 1) (v := vs 3) (bs' := [I, I, I, I, I, I, I, O, O, I, I, I, I, I, I, O, O, O, O, O]) rfl (.inl rfl) rfl (e_val tk (by kernel_rfl)) (by kernel_rfl) rfl (by kernel_rfl) ?_
                                     exact SD.vie D_22 [.g 0, .g 1, .g 2, .g 3, .g 4, .g 5] c_23_5 (by kernel_rfl)
                                   · refine SW.eff D_22 (i := 7) (bs' := [I, O, I, I, I, I, I, I, O, I, I, I, I, I, I, O, O, O, O, O]) rfl (.inl rfl) rfl (e_c Tryd.call47 (ok_wirelessref02_Value F l_23 _ e_x_584) [.g 5] [vs 5] (vi .u64 x_584) (by kernel_rfl) (.inl rfl)) (by kernel_rfl) rfl (by kernel_rfl) ?_
                                     refine SD.takes tk D_22 [] kn0 [8, 15] [] [] [I, O, I, I, I, I, I, I, I, I, I, I, I, I, I, I, O, O, O, O] [(0, vs 0), (2, vp 1 0), (7, vp 2 0), (8, vi .i64 x_19), (85, vp 2 8), (100, .g [ci .u16 (wu16 x_584), ci .i64 (w64 x_20)])] rfl (by kernel_rfl) (by kernel_rfl) (by kernel_rfl) ?_
                                     exact SD.vie D_22 [.g 0, .g 1, .g 2, .g 3, .g 4] c_23_7 (by kernel_rfl)
                                 · refine SD.lay 5 [O, O, I, I, I, I, I, I, I, I, I, I, I, I, I, I, I, O, O, O] [(0, vs 0), (2, vp 1 0), (7, vp 2 0), (8, vi .i64 x_19), (101, vs 5)] [.rd 1 R8 b_1, .blk 30 (C_api_Bond (T_api_Bond.mk (T_api_Identity.mk (T_api_Address.mk 0 0) 0) 0 0 false 0 false [] 0) nl), .blk 30 (C_api_Bond (T_api_Bond.mk (T_api_Identity.mk x_8.1 x_9) x_10 x_11 z_12 x_13 z_14 l_18 x_15) (.s 3)), .own 2 89 R_T_api_Subscription l_18, .elt (some (0, w64 (x_19 + 2))) false [ci .u8 x_20], .own 2 89 R_T_api_Subscription [(T_api_Subscription.mk (wu16 x_584) (w64 x_20))]] ?_ (fun c_23_9 => ?_)
                                   · refine SD.all1 (i := 0) (by kernel_rfl) ?_
                                     refine SW.eff D_22 (i := 0) (v := vp 2 8) (bs' := [I, O, I, I, I, I, I, I, I, I, I, I, I, I, I, I, I, O, O, O]) rfl (.inl rfl) rfl (e_val tk (by kernel_rfl)) (by kernel_rfl) rfl (by kernel_rfl) ?_
                                     exact SD.vie D_22 [.g 0, .g 1, .g 2, .g 3, .g 4, .g 5] c_23_6 (by kernel_rfl)
                                   · refine SD.lay 6 [O, O, I, I, I, I, I, I, I, I, I, I, I, I, I, I, O, O, O, O] [(0, vs 0), (2, vp 1 0), (7, vp 2 0), (8, vi .i64 x_19), (100, .g [ci .u16 (wu16 x_584), ci .i64 (w64 x_20)])] [.rd 1 R8 b_1, .blk 30 (C_api_Bond (T_api_Bond.mk (T_api_Identity.mk (T_api_Address.mk 0 0) 0) 0 0 false 0 false [] 0) nl), .blk 30 (C_api_Bond (T_api_Bond.mk (T_api_Identity.mk x_8.1 x_9) x_10 x_11 z_12 x_13 z_14 l_18 x_15) (.s 3)), .own 2 89 R_T_api_Subscription l_18, .elt (some (0, w64 (x_19 + 2))) false [ci .u8 x_20]] ?_ (fun c_23_10 => ?_)
                                     · refine SD.all2 (i := 0) (j := 16) (by kernel_rfl) ?_ ?_
                                       · refine SW.eff D_22 (i := 0) (v := vp 2 8) (bs' := [I, O, I, I, I, I, I, I, I, I, I, I, I, I, I, I, O, O, O, O]) rfl (.inl rfl) rfl (e_val tk (by kernel_rfl)) (by kernel_rfl) rfl (by kernel_rfl) ?_
                                         exact SD.vie D_22 [.g 0, .g 1, .g 2, .g 3, .g 4] c_23_7 (by kernel_rfl)
                                       · refine SW.eff D_22 (i := 16) (bs' := [O, O, I, I, I, I, I, I, I, I, I, I, I, I, I, I, I, O, O, O]) rfl (.inl rfl) rfl (e_lit (sz := 2) (E := 89) (R := R_T_api_Subscription) (by_ := 16) tk [[ci .u16 (wu16 x_584), ci .i64 (w64 x_20)]] [(T_api_Subscription.mk (wu16 x_584) (w64 x_20))] (by kernel_rfl) ⟨(clo_T_api_Subscription (x := (T_api_Subscription.mk (wu16 x_584) (w64 x_20)))), trivial⟩ rfl (by kernel_rfl) (by kernel_rfl)) (by kernel_rfl) rfl (by kernel_rfl) ?_
                                         exact SD.vie D_22 [.g 0, .g 1, .g 2, .g 3, .g 4, .g 5] c_23_9 (by kernel_rfl)
                                     · refine SD.all2 (i := 0) (j := 7) (by kernel_rfl) ?_ ?_
                                       · refine SW.eff D_22 (i := 0) (v := vp 2 8) (bs' := [I, O, I, I, I, I, I, O, O, I, I, I, I, I, I, O, O, O, O, O]) rfl (.inl rfl) rfl (e_val tk (by kernel_rfl)) (by kernel_rfl) rfl (by kernel_rfl) ?_
                                         exact SD.vie D_22 [.g 0, .g 1, .g 2, .g 3, .g 4, .g 5] c_23_8 (by kernel_rfl)
                                       · refine SW.eff D_22 (i := 7) (bs' := [O, O, I, I, I, I, I, I, O, I, I, I, I, I, I, O, O, O, O, O]) rfl (.inl rfl) rfl (e_c Tryd.call47 (ok_wirelessref02_Value F l_23 _ e_x_584) [.g 5] [vs 5] (vi .u64 x_584) (by kernel_rfl) (.inl rfl)) (by kernel_rfl) rfl (by kernel_rfl) ?_
                                         refine SD.takes tk D_22 [] kn0 [8, 15] [] [] [O, O, I, I, I, I, I, I, I, I, I, I, I, I, I, I, O, O, O, O] [(0, vs 0), (2, vp 1 0), (7, vp 2 0), (8, vi .i64 x_19), (100, .g [ci .u16 (wu16 x_584), ci .i64 (w64 x_20)])] rfl (by kernel_rfl) (by kernel_rfl) (by kernel_rfl) ?_
                                         exact SD.vie D_22 [.g 0, .g 1, .g 2, .g 3, .g 4] c_23_10 (by kernel_rfl)
               · refine SC.exitJ rfl fun a w h => ?_
                 have ho := done_inv hp hs1
                 replace hp := ho1
                 try rw [ho] at hp
                 exact ⟨l_18, hp, h.at (js := [.g 0, .g 1, .g 2, .g 3]) (by kernel_rfl)⟩
             · rintro a w ⟨l_16, hp, h⟩
               refine h.go ?_
               refine SC.seq ?_
               refine SC.reg ?_
               refine SL.sim tk 1 [(2, vp 1 0), (7, vp 2 0), (104, .g (C_api_Bond (T_api_Bond.mk (T_api_Identity.mk x_8.1 x_9) x_10 x_11 z_12 x_13 z_14 l_16 x_15) (.s 3)))] [] [] [] (by kernel_rfl) ?_
               obtain ⟨x_17, e_x_17, hp⟩ := bind_inv hp
               refine SL.eff (e_c Tryd.call15 (ok_wirelessref40_Check F (T_api_Bond.mk (T_api_Identity.mk x_8.1 x_9) x_10 x_11 z_12 x_13 z_14 l_16 x_15) _ e_x_17) [.l 3] [.g (C_api_Bond (T_api_Bond.mk (T_api_Identity.mk x_8.1 x_9) x_10 x_11 z_12 x_13 z_14 l_16 x_15) (.s 3))] (vi .i64 x_17) (by kernel_rfl) (.inr ⟨trivial, trivial⟩)) rfl (by kernel_rfl) ?_
               refine SL.sim tk 1 [(2, vp 1 0), (6, vi .i64 x_17), (7, vp 2 0)] [] [] [] (by kernel_rfl) ?_
               refine SL.nilThen ?_
               refine SC.seq ?_
               refine SC.r tk [(2, vp 1 0), (6, vi .i64 x_17), (7, vp 2 0), (107, vb (x_17 != 0))] [] [] [] (by kernel_rfl) ?_
               refine SC.if' rfl hp (fun hp => ?_) (fun hp => ?_)
               · refine SC.r tk [(2, vp 1 0), (3, vi .i64 x_17)] [(1, 30, (C_api_Bond (T_api_Bond.mk (T_api_Identity.mk (T_api_Address.mk 0 0) 0) 0 0 false 0 false [] 0) nl))] [] [] (by kernel_rfl) ?_
                 obtain rfl := some_inv' hp
                 exact SC.re (js := [.g 0, .n]) tk (by kernel_rfl)
               · refine SC.skipThen ?_
                 refine SC.r tk [(2, vp 1 0), (3, vi .i64 0)] [(1, 30, (C_api_Bond (T_api_Bond.mk (T_api_Identity.mk x_8.1 x_9) x_10 x_11 z_12 x_13 z_14 l_16 x_15) (.s 3)))] [] [] (by kernel_rfl) ?_
                 obtain rfl := some_inv' hp
                 exact SC.re (js := [.g 0, .z 3]) tk (by kernel_rfl)

theorem ok_wirelesslaw40_BondsForms (F : Nat) (b_1 : T_api_Bond) (s_2 : (List Int)) (r : Bool) (hp : wirelesslaw40_BondsForms F b_1 s_2 = some r) : Spec Tryd.prog 3 [.g (C_api_Bond b_1 (.s 0)), vs 1] [.rd 2 R_T_api_Subscription b_1.Subs, .rd 1 R8 s_2] (vb r) [.gone, .gone] := by
 refine Spec.enter Tryd.func3 rfl Tryd.ntmps3 rfl rfl fun fx => ?_
 refine SC.seq ?_
 refine SC.reg ?_
 refine SL.eff (e_box (E := 30) (C_api_Bond b_1 (.s 0)) (by kernel_rfl)) rfl (by kernel_rfl) ?_
 refine SL.sim tk 1 [(1, vs 1), (2, vp 2 0)] [] [] [] (by kernel_rfl) ?_
 refine SL.nilThen ?_
 refine SC.seq ?_
 refine SC.seq ?_
 refine SC.reg ?_
 obtain ⟨x_3, e_x_3, hp⟩ := bind_inv hp
 refine SL.eff (e_c Tryd.call8 (ok_wirelesslaw40_lives F  _ e_x_3) [] [] (vb x_3) (by kernel_rfl) (.inl rfl)) rfl (by kernel_rfl) ?_
 refine SL.sim tk 1 [(1, vs 1), (2, vp 2 0), (15, vb (!x_3))] [] [] [] (by kernel_rfl) ?_
 refine SL.nilThen ?_
 refine SC.if' rfl hp (fun hp => ?_) (fun hp => ?_)
 · refine SC.r tk [(4, vb false)] [] [] [] (by kernel_rfl) ?_
   obtain rfl := some_inv' hp
   exact SC.re (js := [.g 0, .g 1]) tk (by kernel_rfl)
 · refine SC.skipThen ?_
   refine SC.seq ?_
   refine SC.r tk [(1, vs 1), (2, vp 2 0), (24, vb ((decide ((len b_1.Subs) > 64)) || (decide ((len s_2) > 4096))))] [] [] [] (by kernel_rfl) ?_
   refine SC.if' rfl hp (fun hp => ?_) (fun hp => ?_)
   · refine SC.r tk [(4, vb true)] [] [] [] (by kernel_rfl) ?_
     obtain rfl := some_inv' hp
     exact SC.re (js := [.g 0, .g 1]) tk (by kernel_rfl)
   · refine SC.skipThen ?_
     refine SC.seq ?_
     refine SC.reg ?_
     refine SL.sim tk 1 [(1, vs 1), (2, vp 2 0), (25, .g (C_api_Bond b_1 (.s 0)))] [] [] [] (by kernel_rfl) ?_
     refine SL.eff (e_lit (sz := 10) (E := 30) (R := R_T_api_Bond) (by_ := 96) tk [(C_api_Bond b_1 (.s 0))] [b_1] (by kernel_rfl) ⟨(clo_T_api_Bond (x := b_1) (Clo.sl (by kernel_rfl))), trivial⟩ rfl (by kernel_rfl) (by kernel_rfl)) rfl (by kernel_rfl) ?_
     refine SL.norm (itsN := [.rd 2 R_T_api_Subscription b_1.Subs, .rd 1 R8 s_2, .blk 30 (C_api_Bond b_1 (.s 0)), .own 10 30 R_T_api_Bond [b_1]]) (by kernel_rfl) ?_
     obtain ⟨x_4, e_x_4, hp⟩ := bind_inv hp
     refine SL.pre (pre_frz (i := 3) (sz := 10) (E := 30) (R := R_T_api_Bond) (l := [b_1]) (by kernel_rfl)) ?_
     refine SL.eff (e_c Tryd.call9 (ok_wirelessref40_Copy F [b_1] _ e_x_4) [.g 3] [vs 3] (vs 4) (by kernel_rfl) (.inl rfl)) rfl (by kernel_rfl) ?_
     obtain ⟨x_5, e_x_5, hp⟩ := bind_inv hp
     refine SL.pre (pre_ix (i := 4) (iv := 0) (sz := 10) (R := R_T_api_Bond) (l := x_4) (by kernel_rfl) rfl e_x_5) ?_
     refine SL.sim tk 2 [(1, vs 1), (2, vp 2 0), (29, .g (C_api_Bond x_5 (.s 6)))] [] [.el 5] [0] (by kernel_rfl) ?_
     refine SL.eff (e_alloc (E := 30) tk (C_api_Bond (T_api_Bond.mk (T_api_Identity.mk (T_api_Address.mk 0 0) 0) 0 0 false 0 false [] 0) nl) (by kernel_rfl)) rfl (by kernel_rfl) ?_
     refine SL.norm (itsN := [.rd 2 R_T_api_Subscription b_1.Subs, .rd 1 R8 s_2, .blk 30 (C_api_Bond b_1 (.s 0)), .rd 10 R_T_api_Bond [b_1], .rd 10 R_T_api_Bond x_4, .elt (some (4, 0)) false (C_api_Bond x_5 (.s 6)), .rd 2 R_T_api_Subscription x_5.Subs, .blk 30 (C_api_Bond (T_api_Bond.mk (T_api_Identity.mk (T_api_Address.mk 0 0) 0) 0 0 false 0 false [] 0) nl)]) (by kernel_rfl) ?_
     refine SL.sim tk 1 [(1, vs 1), (2, vp 2 0), (5, vp 7 0)] [(7, 30, (C_api_Bond x_5 (.s 6)))] [] [] (by kernel_rfl) ?_
     refine SL.nilThen ?_
     refine SC.seq ?_
     refine SC.reg ?_
     refine SL.sim tk 1 [(1, vs 1), (2, vp 2 0), (5, vp 7 0), (31, .g (C_api_Bond x_5 (.s 6)))] [] [] [] (by kernel_rfl) ?_
     obtain ⟨x_6, e_x_6, hp⟩ := bind_inv hp
     refine SL.eff (e_c Tryd.call10 (ok_bonds_Encode F x_5 _ e_x_6) [.g 6] [.g (C_api_Bond x_5 (.s 6))] (.u [.inl (.s 8), .inl (ci .i64 x_6.2)]) (by kernel_rfl) (.inl rfl)) rfl (by kernel_rfl) ?_
     refine SL.sim tk 5 [(1, vs 1), (2, vp 2 0), (5, vp 7 0), (6, vs 8), (7, vi .i64 x_6.2)] [] [] [] (by kernel_rfl) ?_
     refine SL.nilThen ?_
     refine SC.seq ?_
     refine SC.reg ?_
     refine SL.sim tk 1 [(1, vs 1), (2, vp 2 0), (5, vp 7 0), (6, vs 8), (7, vi .i64 x_6.2), (36, .g (C_api_Bond b_1 (.s 0)))] [] [] [] (by kernel_rfl) ?_
     obtain ⟨x_7, e_x_7, hp⟩ := bind_inv hp
     refine SL.eff (e_c Tryd.call11 (ok_wirelessref40_Encode F b_1 _ e_x_7) [.g 0] [.g (C_api_Bond b_1 (.s 0))] (.u [.inl (.s 9), .inl (ci .i64 x_7.2)]) (by kernel_rfl) (.inl rfl)) rfl (by kernel_rfl) ?_
     refine SL.norm (itsN := [.rd 2 R_T_api_Subscription b_1.Subs, .rd 1 R8 s_2, .blk 30 (C_api_Bond b_1 (.s 0)), .rd 10 R_T_api_Bond [b_1], .rd 10 R_T_api_Bond x_4, .elt (some (4, 0)) false (C_api_Bond x_5 (.s 6)), .rd 2 R_T_api_Subscription x_5.Subs, .blk 30 (C_api_Bond x_5 (.s 6)), .rd 1 R8 x_6.1, .rd 1 R8 x_7.1]) (by kernel_rfl) ?_
     refine SL.sim tk 5 [(1, vs 1), (2, vp 2 0), (5, vp 7 0), (6, vs 8), (7, vi .i64 x_6.2), (8, vs 9), (9, vi .i64 x_7.2)] [] [] [] (by kernel_rfl) ?_
     refine SL.nilThen ?_
     refine SC.seq ?_
     refine SC.reg ?_
     refine SL.eff (e_lit (sz := 1) (E := 5) (R := R8) (by_ := 1) tk [] ([] : (List Int)) (by kernel_rfl) trivial rfl (by kernel_rfl) (by kernel_rfl)) rfl (by kernel_rfl) ?_
     refine SL.sim tk 1 [(1, vs 1), (2, vp 2 0), (5, vp 7 0), (6, vs 8), (7, vi .i64 x_6.2), (8, vs 9), (9, vi .i64 x_7.2), (41, vs 10), (42, vs 1)] [] [] [] (by kernel_rfl) ?_
     obtain ⟨l_8, e_l_8, hp⟩ := bind_inv hp
     refine SL.eff (e_app (i := 10) (l := ([] : (List Int))) (sz := 1) (E := 5) (R := R8) (by_ := 1) (m := s_2) tk rfl (by kernel_rfl) rfl (.r (by kernel_rfl)) e_l_8 (by kernel_rfl)) rfl (by kernel_rfl) ?_
     obtain ⟨x_9, e_x_9, hp⟩ := bind_inv hp
     refine SL.pre (pre_frz (i := 11) (sz := 1) (E := 5) (R := R8) (l := l_8) (by kernel_rfl)) ?_
     refine SL.eff (e_c Tryd.call12 (ok_bonds_Decode F l_8 _ e_x_9) [.g 11] [vs 11] (.u [.inr (C_api_Bond x_9.1 (.s 12)), .inl (ci .i64 x_9.2)]) (by kernel_rfl) (.inl rfl)) rfl (by kernel_rfl) ?_
     refine SL.norm (itsN := [.rd 2 R_T_api_Subscription b_1.Subs, .rd 1 R8 s_2, .blk 30 (C_api_Bond b_1 (.s 0)), .rd 10 R_T_api_Bond [b_1], .rd 10 R_T_api_Bond x_4, .elt (some (4, 0)) false (C_api_Bond x_5 (.s 6)), .rd 2 R_T_api_Subscription x_5.Subs, .blk 30 (C_api_Bond x_5 (.s 6)), .rd 1 R8 x_6.1, .rd 1 R8 x_7.1, .gone, .rd 1 R8 l_8, .rd 2 R_T_api_Subscription x_9.1.Subs]) (by kernel_rfl) ?_
     refine SL.sim tk 3 [(1, vs 1), (2, vp 2 0), (5, vp 7 0), (6, vs 8), (7, vi .i64 x_6.2), (8, vs 9), (9, vi .i64 x_7.2), (45, .g (C_api_Bond x_9.1 (.s 12))), (46, vi .i64 x_9.2)] [] [] [] (by kernel_rfl) ?_
     refine SL.eff (e_alloc (E := 30) tk (C_api_Bond (T_api_Bond.mk (T_api_Identity.mk (T_api_Address.mk 0 0) 0) 0 0 false 0 false [] 0) nl) (by kernel_rfl)) rfl (by kernel_rfl) ?_
     refine SL.sim tk 2 [(1, vs 1), (2, vp 2 0), (5, vp 7 0), (6, vs 8), (7, vi .i64 x_6.2), (8, vs 9), (9, vi .i64 x_7.2), (10, vp 13 0), (11, vi .i64 x_9.2)] [(13, 30, (C_api_Bond x_9.1 (.s 12)))] [] [] (by kernel_rfl) ?_
     refine SL.nilThen ?_
     refine SC.seq ?_
     refine SC.reg ?_
     refine SL.sim tk 1 [(2, vp 2 0), (5, vp 7 0), (6, vs 8), (7, vi .i64 x_6.2), (8, vs 9), (9, vi .i64 x_7.2), (10, vp 13 0), (11, vi .i64 x_9.2), (48, vs 1)] [] [] [] (by kernel_rfl) ?_
     obtain ⟨x_10, e_x_10, hp⟩ := bind_inv hp
     refine SL.eff (e_c Tryd.call13 (ok_wirelessref40_Decode F s_2 _ e_x_10) [.g 1] [vs 1] (.u [.inr (C_api_Bond x_10.1 (.s 14)), .inl (ci .i64 x_10.2)]) (by kernel_rfl) (.inl rfl)) rfl (by kernel_rfl) ?_
     refine SL.norm (itsN := [.rd 2 R_T_api_Subscription b_1.Subs, .rd 1 R8 s_2, .blk 30 (C_api_Bond b_1 (.s 0)), .rd 10 R_T_api_Bond [b_1], .rd 10 R_T_api_Bond x_4, .elt (some (4, 0)) false (C_api_Bond x_5 (.s 6)), .rd 2 R_T_api_Subscription x_5.Subs, .blk 30 (C_api_Bond x_5 (.s 6)), .rd 1 R8 x_6.1, .rd 1 R8 x_7.1, .gone, .rd 1 R8 l_8, .rd 2 R_T_api_Subscription x_9.1.Subs, .blk 30 (C_api_Bond x_9.1 (.s 12)), .rd 2 R_T_api_Subscription x_10.1.Subs]) (by kernel_rfl) ?_
     refine SL.sim tk 3 [(2, vp 2 0), (5, vp 7 0), (6, vs 8), (7, vi .i64 x_6.2), (8, vs 9), (9, vi .i64 x_7.2), (10, vp 13 0), (11, vi .i64 x_9.2), (50, .g (C_api_Bond x_10.1 (.s 14))), (51, vi .i64 x_10.2)] [] [] [] (by kernel_rfl) ?_
     refine SL.eff (e_alloc (E := 30) tk (C_api_Bond (T_api_Bond.mk (T_api_Identity.mk (T_api_Address.mk 0 0) 0) 0 0 false 0 false [] 0) nl) (by kernel_rfl)) rfl (by kernel_rfl) ?_
     refine SL.sim tk 2 [(2, vp 2 0), (5, vp 7 0), (6, vs 8), (7, vi .i64 x_6.2), (8, vs 9), (9, vi .i64 x_7.2), (10, vp 13 0), (11, vi .i64 x_9.2), (12, vp 15 0), (13, vi .i64 x_10.2)] [(15, 30, (C_api_Bond x_10.1 (.s 14)))] [] [] (by kernel_rfl) ?_
     refine SL.nilThen ?_
     refine SC.cut (fun a w => ∃ (z_11 : Bool), wirelesslaw40_BondsForms_j1 F z_11 = some r ∧ A 79 2 fx [(4, vb z_11)] [.gone, .gone] a w) ?_ ?_
     · refine SC.draw MO [I, I, I, I, I, I, I, I, I, I, O, I, I, I, I, I] (by kernel_rfl) fun kap_12 D_13 => ?_
       refine SD.takes tk D_13 [] kn0 [0, 2] [] [] [I, O, I, O, O, O, O, O, O, O, O, O, O, O, O, O, O, O, O, O, O, O, O, O, O, O, O, O] [(6, vs 8), (7, vi .i64 x_6.2), (8, vs 9), (9, vi .i64 x_7.2), (10, vp 13 0), (11, vi .i64 x_9.2), (12, vp 15 0), (13, vi .i64 x_10.2), (52, .g (C_api_Bond x_5 (.s 6))), (54, .g (C_api_Bond b_1 (.s 0)))] rfl (by kernel_rfl) (by kernel_rfl) (by kernel_rfl) ?_
       obtain ⟨x_14, e_x_14, hp⟩ := bind_inv hp
       refine SD.all1 (i := 1) (by kernel_rfl) ?_
       refine SW.eff D_13 (i := 1) (bs' := [I, I, I, O, O, O, O, O, O, O, O, O, O, O, O, O, O, O, O, O, O, O, O, O, O, O, O, O]) rfl (.inl rfl) rfl (e_c Tryd.call14 (ok_bonds_Check F x_5 _ e_x_14) [.g 6] [.g (C_api_Bond x_5 (.s 6))] (vi .i64 x_14) (by kernel_rfl) (.inl rfl)) (by kernel_rfl) rfl (by kernel_rfl) ?_
       refine SD.norm (itsN := [.rd 2 R_T_api_Subscription b_1.Subs, .rd 1 R8 s_2, .blk 30 (C_api_Bond b_1 (.s 0)), .rd 10 R_T_api_Bond [b_1], .rd 10 R_T_api_Bond x_4, .elt (some (4, 0)) false (C_api_Bond x_5 (.s 6)), .rd 2 R_T_api_Subscription x_5.Subs, .blk 30 (C_api_Bond x_5 (.s 6)), .rd 1 R8 x_6.1, .rd 1 R8 x_7.1, .gone, .rd 1 R8 l_8, .rd 2 R_T_api_Subscription x_9.1.Subs, .blk 30 (C_api_Bond x_9.1 (.s 12)), .rd 2 R_T_api_Subscription x_10.1.Subs, .blk 30 (C_api_Bond x_10.1 (.s 14))]) (by kernel_rfl) ?_
       obtain ⟨x_15, e_x_15, hp⟩ := bind_inv hp
       refine SD.all1 (i := 3) (by kernel_rfl) ?_
       refine SW.eff D_13 (i := 3) (bs' := [I, I, I, I, O, O, O, O, O, O, O, O, O, O, O, O, O, O, O, O, O, O, O, O, O, O, O, O]) rfl (.inl rfl) rfl (e_c Tryd.call15 (ok_wirelessref40_Check F b_1 _ e_x_15) [.g 0] [.g (C_api_Bond b_1 (.s 0))] (vi .i64 x_15) (by kernel_rfl) (.inl rfl)) (by kernel_rfl) rfl (by kernel_rfl) ?_
       refine SD.takes tk D_13 [] kn0 [4, 5, 6, 7, 8, 9, 10] [] [] [I, I, I, I, I, I, I, I, I, I, I, O, O, O, O, O, O, O, O, O, O, O, O, O, O, O, O, O] [(6, vs 8), (8, vs 9), (10, vp 13 0), (11, vi .i64 x_9.2), (12, vp 15 0), (13, vi .i64 x_10.2), (62, vb ((x_14 == x_15) && (x_6.2 == x_7.2)))] rfl (by kernel_rfl) (by kernel_rfl) (by kernel_rfl) ?_
       rcases Bool.eq_false_or_eq_true (((x_14 == x_15) && (x_6.2 == x_7.2))) with hg_16 | hg_16
       · replace hp := if_t hp hg_16
         refine SD.takes tk D_13 [(62, true)] (knS rfl hg_16 kn0) [11, 13] [] [] [I, I, I, I, I, I, I, I, I, I, I, I, O, I, O, O, O, O, O, O, O, O, O, O, O, O, O, O] [(10, vp 13 0), (11, vi .i64 x_9.2), (12, vp 15 0), (13, vi .i64 x_10.2), (62, vb ((x_14 == x_15) && (x_6.2 == x_7.2))), (63, vs 8), (65, vs 9)] rfl (by kernel_rfl) (by kernel_rfl) (by kernel_rfl) ?_
         refine SD.lay 5 [I, I, I, I, I, I, I, I, I, I, I, I, I, I, I, I, I, I, I, I, I, I, I, O, O, O, O, O] [(10, vp 13 0), (12, vp 15 0), (74, vb (((str x_6.1) == (str x_7.1)) && (x_9.2 == x_10.2)))] [.rd 2 R_T_api_Subscription b_1.Subs, .rd 1 R8 s_2, .blk 30 (C_api_Bond b_1 (.s 0)), .rd 10 R_T_api_Bond [b_1], .rd 10 R_T_api_Bond x_4, .elt (some (4, 0)) false (C_api_Bond x_5 (.s 6)), .rd 2 R_T_api_Subscription x_5.Subs, .blk 30 (C_api_Bond x_5 (.s 6)), .rd 1 R8 x_6.1, .rd 1 R8 x_7.1, .gone, .rd 1 R8 l_8, .rd 2 R_T_api_Subscription x_9.1.Subs, .blk 30 (C_api_Bond x_9.1 (.s 12)), .rd 2 R_T_api_Subscription x_10.1.Subs, .blk 30 (C_api_Bond x_10.1 (.s 14))] ?_ (fun c_16_0 => ?_)
         · rcases Bool.eq_false_or_eq_true ((((str x_6.1) == (str x_7.1)) && (x_9.2 == x_10.2))) with hg_2337 | hg_2337
           · replace hp := if_t hp hg_2337
             refine SD.takes tk D_13 [(74, true)] (knS rfl hg_2337 kn0) [23, 24] [] [] [I, I, I, I, I, I, I, I, I, I, I, I, I, I, I, I, I, I, I, I, I, I, I, I, I, O, O, O] [(74, vb (((str x_6.1) == (str x_7.1)) && (x_9.2 == x_10.2))), (75, .g (C_api_Bond x_9.1 (.s 12))), (76, .g (C_api_Bond x_10.1 (.s 14)))] rfl (by kernel_rfl) (by kernel_rfl) (by kernel_rfl) ?_
             obtain ⟨x_2338, e_x_2338, hp⟩ := bind_inv hp
             refine SD.all1 (i := 25) (by kernel_rfl) ?_
             refine SW.eff D_13 (i := 25) (bs' := [I, I, I, I, I, I, I, I, I, I, I, I, I, I, I, I, I, I, I, I, I, I, I, I, I, I, O, O]) rfl (.inr ⟨_, _, _, _, rfl, rfl, rfl, hg_2337⟩) rfl (e_c Tryd.call16 (ok_wirelessref40_SameBond F x_9.1 x_10.1 _ e_x_2338) [.g 12, .g 14] [.g (C_api_Bond x_9.1 (.s 12)), .g (C_api_Bond x_10.1 (.s 14))] (vb x_2338) (by kernel_rfl) (.inl rfl)) (by kernel_rfl) rfl (by kernel_rfl) ?_
             refine SD.takes tk D_13 [(74, true)] (knS rfl hg_2337 kn0) [26, 27] [] [] [I, I, I, I, I, I, I, I, I, I, I, I, I, I, I, I, I, I, I, I, I, I, I, I, I, I, I, I] [(4, vb x_2338)] rfl (by kernel_rfl) (by kernel_rfl) (by kernel_rfl) ?_
             refine SD.done (by kernel_rfl) fun a w h => ?_
             exact ⟨x_2338, hp, h.at (js := [.g 0, .g 1]) (by kernel_rfl)⟩
           · replace hp := if_f hp hg_2337
             refine SD.takes tk D_13 [(74, false)] (knS rfl hg_2337 kn0) [23, 24, 25, 26, 27] [] [] [I, I, I, I, I, I, I, I, I, I, I, I, I, I, I, I, I, I, I, I, I, I, I, I, I, I, I, I] [(4, vb false)] rfl (by kernel_rfl) (by kernel_rfl) (by kernel_rfl) ?_
             refine SD.done (by kernel_rfl) fun a w h => ?_
             exact ⟨false, hp, h.at (js := [.g 0, .g 1]) (by kernel_rfl)⟩
         · refine SD.lay 13 [I, I, I, I, I, I, I, I, I, I, I, I, I, I, I, O, O, O, O, O, O, O, O, O, O, O, O, O] [(10, vp 13 0), (11, vi .i64 x_9.2), (12, vp 15 0), (13, vi .i64 x_10.2), (62, vb ((x_14 == x_15) && (x_6.2 == x_7.2))), (64, vt 16), (66, vt 17)] [.rd 2 R_T_api_Subscription b_1.Subs, .rd 1 R8 s_2, .blk 30 (C_api_Bond b_1 (.s 0)), .rd 10 R_T_api_Bond [b_1], .rd 10 R_T_api_Bond x_4, .elt (some (4, 0)) false (C_api_Bond x_5 (.s 6)), .rd 2 R_T_api_Subscription x_5.Subs, .blk 30 (C_api_Bond x_5 (.s 6)), .rd 1 R8 x_6.1, .rd 1 R8 x_7.1, .gone, .rd 1 R8 l_8, .rd 2 R_T_api_Subscription x_9.1.Subs, .blk 30 (C_api_Bond x_9.1 (.s 12)), .rd 2 R_T_api_Subscription x_10.1.Subs, .blk 30 (C_api_Bond x_10.1 (.s 14)), .str (str x_6.1), .str (str x_7.1)] ?_ (fun c_16_1 => ?_)
           · refine SD.all1 (i := 15) (by kernel_rfl) ?_
             refine SW.eff D_13 (i := 15) (v := vb ((str x_6.1) == (str x_7.1))) (bs' := [I, I, I, I, I, I, I, I, I, I, I, I, I, I, I, I, O, O, O, O, O, O, O, O, O, O, O, O]) rfl (.inr ⟨_, _, _, _, rfl, rfl, rfl, hg_16⟩) rfl (e_val tk (by kernel_rfl)) (by kernel_rfl) rfl (by kernel_rfl) ?_
             refine SD.takes tk D_13 [(62, true)] (knS rfl hg_16 kn0) [16, 17, 18, 19, 20, 21, 22] [] [] [I, I, I, I, I, I, I, I, I, I, I, I, I, I, I, I, I, I, I, I, I, I, I, O, O, O, O, O] [(10, vp 13 0), (12, vp 15 0), (74, vb (((str x_6.1) == (str x_7.1)) && (x_9.2 == x_10.2)))] rfl (by kernel_rfl) (by kernel_rfl) (by kernel_rfl) ?_
             exact SD.vie D_13 [.g 0, .g 1, .g 2, .g 3, .g 4, .g 5, .g 6, .g 7, .g 8, .g 9, .g 10, .g 11, .g 12, .g 13, .g 14, .g 15] c_16_0 (by kernel_rfl)
           · refine SD.lay 14 [I, I, I, I, I, I, I, I, I, I, I, I, I, I, O, O, O, O, O, O, O, O, O, O, O, O, O, O] [(10, vp 13 0), (11, vi .i64 x_9.2), (12, vp 15 0), (13, vi .i64 x_10.2), (62, vb ((x_14 == x_15) && (x_6.2 == x_7.2))), (64, vt 16), (65, vs 9)] [.rd 2 R_T_api_Subscription b_1.Subs, .rd 1 R8 s_2, .blk 30 (C_api_Bond b_1 (.s 0)), .rd 10 R_T_api_Bond [b_1], .rd 10 R_T_api_Bond x_4, .elt (some (4, 0)) false (C_api_Bond x_5 (.s 6)), .rd 2 R_T_api_Subscription x_5.Subs, .blk 30 (C_api_Bond x_5 (.s 6)), .rd 1 R8 x_6.1, .rd 1 R8 x_7.1, .gone, .rd 1 R8 l_8, .rd 2 R_T_api_Subscription x_9.1.Subs, .blk 30 (C_api_Bond x_9.1 (.s 12)), .rd 2 R_T_api_Subscription x_10.1.Subs, .blk 30 (C_api_Bond x_10.1 (.s 14)), .str (str x_6.1)] ?_ (fun c_16_2 => ?_)
             · refine SD.all1 (i := 14) (by kernel_rfl) ?_
               refine SW.eff D_13 (i := 14) (bs' := [I, I, I, I, I, I, I, I, I, I, I, I, I, I, I, O, O, O, O, O, O, O, O, O, O, O, O, O]) rfl (.inr ⟨_, _, _, _, rfl, rfl, rfl, hg_16⟩) rfl (e_b2s (l := x_7.1) tk rfl (.r (by kernel_rfl)) (by kernel_rfl)) (by kernel_rfl) rfl (by kernel_rfl) ?_
               exact SD.vie D_13 [.g 0, .g 1, .g 2, .g 3, .g 4, .g 5, .g 6, .g 7, .g 8, .g 9, .g 10, .g 11, .g 12, .g 13, .g 14, .g 15, .g 16, .g 17] c_16_1 (by kernel_rfl)
             · refine SD.lay 14 [I, I, I, I, I, I, I, I, I, I, I, I, O, I, I, O, O, O, O, O, O, O, O, O, O, O, O, O] [(10, vp 13 0), (11, vi .i64 x_9.2), (12, vp 15 0), (13, vi .i64 x_10.2), (62, vb ((x_14 == x_15) && (x_6.2 == x_7.2))), (63, vs 8), (66, vt 16)] [.rd 2 R_T_api_Subscription b_1.Subs, .rd 1 R8 s_2, .blk 30 (C_api_Bond b_1 (.s 0)), .rd 10 R_T_api_Bond [b_1], .rd 10 R_T_api_Bond x_4, .elt (some (4, 0)) false (C_api_Bond x_5 (.s 6)), .rd 2 R_T_api_Subscription x_5.Subs, .blk 30 (C_api_Bond x_5 (.s 6)), .rd 1 R8 x_6.1, .rd 1 R8 x_7.1, .gone, .rd 1 R8 l_8, .rd 2 R_T_api_Subscription x_9.1.Subs, .blk 30 (C_api_Bond x_9.1 (.s 12)), .rd 2 R_T_api_Subscription x_10.1.Subs, .blk 30 (C_api_Bond x_10.1 (.s 14)), .str (str x_7.1)] ?_ (fun c_16_3 => ?_)
               · refine SD.all1 (i := 12) (by kernel_rfl) ?_
                 refine SW.eff D_13 (i := 12) (bs' := [I, I, I, I, I, I, I, I, I, I, I, I, I, I, I, O, O, O, O, O, O, O, O, O, O, O, O, O]) rfl (.inr ⟨_, _, _, _, rfl, rfl, rfl, hg_16⟩) rfl (e_b2s (l := x_6.1) tk rfl (.r (by kernel_rfl)) (by kernel_rfl)) (by kernel_rfl) rfl (by kernel_rfl) ?_
                 exact SD.vie D_13 [.g 0, .g 1, .g 2, .g 3, .g 4, .g 5, .g 6, .g 7, .g 8, .g 9, .g 10, .g 11, .g 12, .g 13, .g 14, .g 15, .g 17, .g 16] c_16_1 (by kernel_rfl)
               · refine SD.all2 (i := 12) (j := 14) (by kernel_rfl) ?_ ?_
                 · refine SW.eff D_13 (i := 12) (bs' := [I, I, I, I, I, I, I, I, I, I, I, I, I, I, O, O, O, O, O, O, O, O, O, O, O, O, O, O]) rfl (.inr ⟨_, _, _, _, rfl, rfl, rfl, hg_16⟩) rfl (e_b2s (l := x_6.1) tk rfl (.r (by kernel_rfl)) (by kernel_rfl)) (by kernel_rfl) rfl (by kernel_rfl) ?_
                   refine SD.norm (itsN := [.rd 2 R_T_api_Subscription b_1.Subs, .rd 1 R8 s_2, .blk 30 (C_api_Bond b_1 (.s 0)), .rd 10 R_T_api_Bond [b_1], .rd 10 R_T_api_Bond x_4, .elt (some (4, 0)) false (C_api_Bond x_5 (.s 6)), .rd 2 R_T_api_Subscription x_5.Subs, .blk 30 (C_api_Bond x_5 (.s 6)), .rd 1 R8 x_6.1, .rd 1 R8 x_7.1, .gone, .rd 1 R8 l_8, .rd 2 R_T_api_Subscription x_9.1.Subs, .blk 30 (C_api_Bond x_9.1 (.s 12)), .rd 2 R_T_api_Subscription x_10.1.Subs, .blk 30 (C_api_Bond x_10.1 (.s 14)), .str (str x_6.1)]) (by kernel_rfl) ?_
                   exact SD.vie D_13 [.g 0, .g 1, .g 2, .g 3, .g 4, .g 5, .g 6, .g 7, .g 8, .g 9, .g 10, .g 11, .g 12, .g 13, .g 14, .g 15, .g 16] c_16_2 (by kernel_rfl)
                 · refine SW.eff D_13 (i := 14) (bs' := [I, I, I, I, I, I, I, I, I, I, I, I, O, I, I, O, O, O, O, O, O, O, O, O, O, O, O, O]) rfl (.inr ⟨_, _, _, _, rfl, rfl, rfl, hg_16⟩) rfl (e_b2s (l := x_7.1) tk rfl (.r (by kernel_rfl)) (by kernel_rfl)) (by kernel_rfl) rfl (by kernel_rfl) ?_
                   refine SD.norm (itsN := [.rd 2 R_T_api_Subscription b_1.Subs, .rd 1 R8 s_2, .blk 30 (C_api_Bond b_1 (.s 0)), .rd 10 R_T_api_Bond [b_1], .rd 10 R_T_api_Bond x_4, .elt (some (4, 0)) false (C_api_Bond x_5 (.s 6)), .rd 2 R_T_api_Subscription x_5.Subs, .blk 30 (C_api_Bond x_5 (.s 6)), .rd 1 R8 x_6.1, .rd 1 R8 x_7.1, .gone, .rd 1 R8 l_8, .rd 2 R_T_api_Subscription x_9.1.Subs, .blk 30 (C_api_Bond x_9.1 (.s 12)), .rd 2 R_T_api_Subscription x_10.1.Subs, .blk 30 (C_api_Bond x_10.1 (.s 14)), .str (str x_7.1)]) (by kernel_rfl) ?_
                   exact SD.vie D_13 [.g 0, .g 1, .g 2, .g 3, .g 4, .g 5, .g 6, .g 7, .g 8, .g 9, .g 10, .g 11, .g 12, .g 13, .g 14, .g 15, .g 16] c_16_3 (by kernel_rfl)
       · replace hp := if_f hp hg_16
         refine SD.takes tk D_13 [(62, false)] (knS rfl hg_16 kn0) [11, 12, 13, 14, 15, 16, 17, 18, 19, 20, 21, 22] [] [] [I, I, I, I, I, I, I, I, I, I, I, I, I, I, I, I, I, I, I, I, I, I, I, O, O, O, O, O] [(10, vp 13 0), (12, vp 15 0), (74, vb (false && (x_9.2 == x_10.2)))] rfl (by kernel_rfl) (by kernel_rfl) (by kernel_rfl) ?_
         rcases Bool.eq_false_or_eq_true ((false && (x_9.2 == x_10.2))) with hg_2339 | hg_2339
         · replace hp := if_t hp hg_2339
           refine SD.takes tk D_13 [(74, true)] (knS rfl hg_2339 kn0) [23, 24] [] [] [I, I, I, I, I, I, I, I, I, I, I, I, I, I, I, I, I, I, I, I, I, I, I, I, I, O, O, O] [(74, vb (false && (x_9.2 == x_10.2))), (75, .g (C_api_Bond x_9.1 (.s 12))), (76, .g (C_api_Bond x_10.1 (.s 14)))] rfl (by kernel_rfl) (by kernel_rfl) (by kernel_rfl) ?_
           obtain ⟨x_2340, e_x_2340, hp⟩ := bind_inv hp
           refine SD.all1 (i := 25) (by kernel_rfl) ?_
           refine SW.eff D_13 (i := 25) (bs' := [I, I, I, I, I, I, I, I, I, I, I, I, I, I, I, I, I, I, I, I, I, I, I, I, I, I, O, O]) rfl (.inr ⟨_, _, _, _, rfl, rfl, rfl, hg_2339⟩) rfl (e_c Tryd.call16 (ok_wirelessref40_SameBond F x_9.1 x_10.1 _ e_x_2340) [.g 12, .g 14] [.g (C_api_Bond x_9.1 (.s 12)), .g (C_api_Bond x_10.1 (.s 14))] (vb x_2340) (by kernel_rfl) (.inl rfl)) (by kernel_rfl) rfl (by kernel_rfl) ?_
           refine SD.norm (itsN := [.rd 2 R_T_api_Subscription b_1.Subs, .rd 1 R8 s_2, .blk 30 (C_api_Bond b_1 (.s 0)), .rd 10 R_T_api_Bond [b_1], .rd 10 R_T_api_Bond x_4, .elt (some (4, 0)) false (C_api_Bond x_5 (.s 6)), .rd 2 R_T_api_Subscription x_5.Subs, .blk 30 (C_api_Bond x_5 (.s 6)), .rd 1 R8 x_6.1, .rd 1 R8 x_7.1, .gone, .rd 1 R8 l_8, .rd 2 R_T_api_Subscription x_9.1.Subs, .blk 30 (C_api_Bond x_9.1 (.s 12)), .rd 2 R_T_api_Subscription x_10.1.Subs, .blk 30 (C_api_Bond x_10.1 (.s 14))]) (by kernel_rfl) ?_
           refine SD.takes tk D_13 [(74, true)] (knS rfl hg_2339 kn0) [26, 27] [] [] [I, I, I, I, I, I, I, I, I, I, I, I, I, I, I, I, I, I, I, I, I, I, I, I, I, I, I, I] [(4, vb x_2340)] rfl (by kernel_rfl) (by kernel_rfl) (by kernel_rfl) ?_
           refine SD.done (by kernel_rfl) fun a w h => ?_
           exact ⟨x_2340, hp, h.at (js := [.g 0, .g 1]) (by kernel_rfl)⟩
         · replace hp := if_f hp hg_2339
           refine SD.takes tk D_13 [(74, false)] (knS rfl hg_2339 kn0) [23, 24, 25, 26, 27] [] [] [I, I, I, I, I, I, I, I, I, I, I, I, I, I, I, I, I, I, I, I, I, I, I, I, I, I, I, I] [(4, vb false)] rfl (by kernel_rfl) (by kernel_rfl) (by kernel_rfl) ?_
           refine SD.done (by kernel_rfl) fun a w h => ?_
           exact ⟨false, hp, h.at (js := [.g 0, .g 1]) (by kernel_rfl)⟩
     · rintro a w ⟨z_11, hp, h⟩
       refine h.go ?_
       obtain rfl := some_inv' hp
       exact SC.re (js := [.g 0, .g 1]) tk (by kernel_rfl)
end V
end Go.Proofs.YtbdhonofhlpdoaaDoor
