/-
  Walks, written by program: each Go function returns what its pure twin says.
-/
import Derived.Test.YtbdhonofhlpdoaaDoorW0
namespace Go.Proofs.YtbdhonofhlpdoaaDoor
namespace V
theorem ok_mac_Tag (F : Nat) (k_1 : Int) (b_2 : (List Int)) (r : Int) (hp : mac_Tag F k_1 b_2 = some r) : Spec Tryd.prog 108 [vi .u64 k_1, vs 0] [.rd 1 R8 b_2] (vi .u64 r) [.gone] := by
 refine Spec.enterM Tryd.func108 rfl Tryd.ntmps108 rfl rfl fun fx => ?_
 refine SC.seq ?_
 refine SC.reg ?_
 refine SL.eff (e_box (E := 25) [ci .u64 k_1] (by kernel_rfl)) rfl (by kernel_rfl) ?_
 refine SL.sim tk 1 [(1, vs 0), (2, vp 1 0)] [] [] [] (by kernel_rfl) ?_
 refine SL.nilThen ?_
 refine SC.seq ?_
 refine SC.reg ?_
 refine SL.sim tk 4 [(1, vs 0), (2, vp 1 0), (7, vi .u64 k_1), (10, vi .u64 (wu64 (len b_2)))] [] [] [] (by kernel_rfl) ?_
 obtain ⟨x_3, e_x_3, hp⟩ := bind_inv hp
 refine SL.eff (e_c Tryd.call114 (ok_block_Mix F k_1 (wu64 (len b_2)) _ e_x_3) [] [vi .u64 k_1, vi .u64 (wu64 (len b_2))] (vi .u64 x_3) (by kernel_rfl) (.inl rfl)) rfl (by kernel_rfl) ?_
 refine SL.eff (e_alloc (E := 22) tk [ci .u64 0] (by kernel_rfl)) rfl (by kernel_rfl) ?_
 refine SL.norm (itsN := [.rd 1 R8 b_2, .blk 25 [ci .u64 k_1], .blk 22 [ci .u64 0]]) (by kernel_rfl) ?_
 refine SL.sim tk 1 [(1, vs 0), (2, vp 1 0), (5, vp 2 0)] [(2, 22, [ci .u64 x_3])] [] [] (by kernel_rfl) ?_
 refine SL.nilThen ?_
 refine SC.seq ?_
 refine SC.seq ?_
 refine SC.reg ?_
 refine SL.sim tk 1 [(2, vp 1 0), (5, vp 2 0), (12, vs 0)] [] [] [] (by kernel_rfl) ?_
 refine SL.eff (e_c Tryd.call115 (ok_mac_groups b_2) [.g 0] [vs 0] (.f 122 [.p 3 0]) (by kernel_rfl) (.inl rfl)) rfl (by kernel_rfl) ?_
 refine SL.nilThen ?_
 obtain ⟨o_4, e_o_4, hp⟩ := bind_inv hp
 refine SC.mk fun a w h => (show A 21 1 fx [(2, vp 1 0), (5, vp 2 0), (13, .f 122 [.p 3 0])] [.gone, .blk 25 [ci .u64 k_1], .blk 22 [ci .u64 x_3], .blk 31 [.s 4], .rd 1 R8 b_2] a w from h.at (js := [.g 0, .g 1, .g 2, .g 3, .g 0]) (by kernel_rfl)).go ?_
 refine SC.range (pl := [14]) (itsE := [.gone, .gone, .blk 22 [ci .u64 o_4], .gone, .gone]) (its2 := [.gone, .gone, .blk 22 [ci .u64 o_4], .gone, .gone]) (envR := [(5, vp 2 0)]) (env2 := [(4, vi .u64 o_4)]) rfl Tryd.call122 Tryd.func122 rfl Tryd.ntmps122 rfl rfl rfl rfl rfl rfl (fun fx l rec hu hx hw hst hpe hpl has hbo hS => ?_) (fun fx => ?_) rfl (fun a w h => ?_)
 · replace hp := e_o_4
   refine SC.r tk [(0, yv l), (1, vp 3 0), (3, vi .i64 0)] [] [] [] (by kernel_rfl) ?_
   refine SC.block ?_
   obtain ⟨o1, hi1, ho1⟩ := bind_inv hp
   clear hp
   refine SC.loop (fun n a w => ∃ (x_6 : Int) (x_7 : Int), iter (fun s => mac_Tag_it_l1 F k_1 b_2 s.1 s.2) n (x_6, x_7) = some o1 ∧ A 39 5 fx [(0, yv l), (1, vp 3 0), (3, vi .i64 x_7)] [.gone, .blk 25 [ci .u64 k_1], .blk 22 [ci .u64 x_6], .blk 31 [.s 4], .rd 1 R8 b_2] a w) F (fun a w h => ⟨x_3, 0, hi1, h.at (js := [.g 0, .g 1, .g 2, .g 3, .g 4]) (by kernel_rfl)⟩) ?_
   rintro n1 a w ⟨x_6, x_7, hi1, h⟩
   obtain ⟨n1, q1, rfl, hp, hs1⟩ := iter_inv hi1
   replace hp : mac_Tag_it_l1 F k_1 b_2 x_6 x_7 = some q1 := hp
   clear hi1
   refine h.go ?_
   refine SC.seq ?_
   refine SC.r tk [(0, yv l), (1, vp 3 0), (3, vi .i64 x_7), (10, vb (decide (x_7 < (len b_2))))] [] [] [] (by kernel_rfl) ?_
   refine SC.if' rfl hp (fun hp => ?_) (fun hp => ?_)
   · refine SC.skipThen ?_
     refine SC.cut (fun a w => ∃ (x_8 : Int), mac_Tag_it_j1 F x_7 x_8 = some q1 ∧ A 39 5 fx [(0, yv l), (1, vp 3 0), (3, vi .i64 x_7)] [.gone, .blk 25 [ci .u64 k_1], .blk 22 [ci .u64 x_8], .blk 31 [.s 4], .rd 1 R8 b_2] a w) ?_ ?_
     · refine SC.block ?_
       refine SC.r tk [(0, yv l), (1, vp 3 0), (3, vi .i64 x_7), (4, vi .u64 0)] [] [] [] (by kernel_rfl) ?_
       refine SC.cut (fun a w => ∃ (x_9 : Int), mac_Tag_it_j2 F k_1 x_6 x_7 x_9 = some q1 ∧ A 39 5 fx [(0, yv l), (1, vp 3 0), (3, vi .i64 x_7), (4, vi .u64 x_9)] [.gone, .blk 25 [ci .u64 k_1], .blk 22 [ci .u64 x_6], .blk 31 [.s 4], .rd 1 R8 b_2] a w) ?_ ?_
       · refine SC.seq ?_
         refine SC.reg ?_
         refine SL.sim tk 7 [(0, yv l), (1, vp 3 0), (3, vi .i64 x_7), (4, vi .u64 0), (13, vs 4), (14, vi .i64 x_7), (19, vi .i64 (imin (w64 (x_7 + 8)) (len b_2)))] [] [] [] (by kernel_rfl) ?_
         obtain ⟨l_12, e_l_12, hp⟩ := bind_inv hp
         refine SL.eff (e_sub (sz := 1) (E := 5) (R := R8) (by_ := 1) (l := b_2) tk rfl (.inl ⟨4, rfl, (by kernel_rfl)⟩) rfl rfl e_l_12 (by kernel_rfl)) rfl (by kernel_rfl) ?_
         refine SL.sim tk 2 [(0, yv l), (1, vp 3 0), (3, vi .i64 x_7), (4, vi .u64 0), (20, vs 5), (21, vi .i64 (len l_12)), (22, vi .i64 0)] [] [] [] (by kernel_rfl) ?_
         refine SL.nilThen ?_
         refine SC.block ?_
         obtain ⟨o2, hi2, ho2⟩ := bind_inv hp
         clear hp
         refine SC.loop (fun n a w => ∃ (x_13 : Int) (x_14 : Int), iter (fun s => mac_Tag_it_l2 F l_12 s.1 s.2) n (x_13, x_14) = some o2 ∧ A 39 5 fx [(0, yv l), (1, vp 3 0), (3, vi .i64 x_7), (4, vi .u64 x_13), (20, vs 5), (21, vi .i64 (len l_12)), (22, vi .i64 x_14)] [.gone, .blk 25 [ci .u64 k_1], .blk 22 [ci .u64 x_6], .blk 31 [.s 4], .rd 1 R8 b_2, .rd 1 R8 l_12] a w) F (fun a w h => ⟨0, 0, hi2, h.at (js := [.g 0, .g 1, .g 2, .g 3, .g 4, .g 5]) (by kernel_rfl)⟩) ?_
         rintro n2 a w ⟨x_13, x_14, hi2, h⟩
         obtain ⟨n2, q2, rfl, hp, hs2⟩ := iter_inv hi2
         replace hp : mac_Tag_it_l2 F l_12 x_13 x_14 = some q2 := hp
         clear hi2
         refine h.go ?_
         refine SC.r tk [(0, yv l), (1, vp 3 0), (3, vi .i64 x_7), (4, vi .u64 x_13), (20, vs 5), (21, vi .i64 (len l_12)), (22, vi .i64 x_14), (23, vb (decide (x_14 < (len l_12))))] [] [] [] (by kernel_rfl) ?_
         refine SC.seq ?_
         refine SC.if' rfl hp (fun hp => ?_) (fun hp => ?_)
         · refine SC.skipThen ?_
           refine SC.seq ?_
           refine SC.block ?_
           obtain ⟨x_15, e_x_15, hp⟩ := bind_inv hp
           refine SC.pre (pre_ix (i := 5) (iv := x_14) (sz := 1) (R := R8) (l := l_12) (by kernel_rfl) rfl e_x_15) ?_
           refine SC.r tk [(0, yv l), (1, vp 3 0), (3, vi .i64 x_7), (4, vi .u64 x_13), (5, vi .i64 x_14), (6, vi .u8 x_15), (20, vs 5), (21, vi .i64 (len l_12)), (22, vi .i64 x_14)] [] [.el 6] [x_14] (by kernel_rfl) ?_
           refine SC.reg ?_
           obtain ⟨x_16, e_x_16, hp⟩ := bind_inv hp
           refine SL.sim tk 8 [(0, yv l), (1, vp 3 0), (3, vi .i64 x_7), (4, vi .u64 (ior .u64 x_13 x_16)), (20, vs 5), (21, vi .i64 (len l_12)), (22, vi .i64 x_14)] [] [.bin .shl .u64 (wu64 x_15) (w64 (8 * x_14)) x_16 e_x_16] [wu64 x_15, w64 (8 * x_14)] (by kernel_rfl) ?_
           refine SL.nilThen ?_
           refine SC.reg ?_
           refine SL.sim tk 2 [(0, yv l), (1, vp 3 0), (3, vi .i64 x_7), (4, vi .u64 (ior .u64 x_13 x_16)), (20, vs 5), (21, vi .i64 (len l_12)), (22, vi .i64 (w64 (x_14 + 1)))] [] [] [] (by kernel_rfl) ?_
           refine SL.nilJ fun a w h => ?_
           exact ⟨n2, Nat.lt_succ_self _, ior .u64 x_13 x_16, w64 (x_14 + 1), next_inv hp hs2, h.at (js := [.g 0, .g 1, .g 2, .g 3, .g 4, .g 5]) (by kernel_rfl)⟩
         · refine SC.exitJ rfl fun a w h => ?_
           have ho := done_inv hp hs2
           replace hp := ho2
           try rw [ho] at hp
           exact ⟨x_13, hp, h.at (js := [.g 0, .g 1, .g 2, .g 3, .g 4]) (by kernel_rfl)⟩
       · rintro a w ⟨x_9, hp, h⟩
         refine h.go ?_
         obtain ⟨o_10, e_o_10, hp⟩ := bind_inv hp
         refine SC.cut (fun a w => A 39 5 fx [(0, yv l), (1, vp 3 0), (3, vi .i64 x_7), (38, vb false)] [.gone, .blk 25 [ci .u64 k_1], .blk 22 [ci .u64 o_10], .blk 31 [.s 4], .rd 1 R8 b_2] a w) ?_ (fun a w h => h.go ?_)
         · refine SC.regI ?_
           refine SLI.cutAt 2 (fun a w => A 39 5 fx [(0, yv l), (1, vp 3 0), (3, vi .i64 x_7), (35, yv l), (36, vi .u64 x_9)] [.gone, .blk 25 [ci .u64 k_1], .blk 22 [ci .u64 x_6], .blk 31 [.s 4], .rd 1 R8 b_2] a w) ?_ rfl (fun a w h => h.goLI ?_)
           · refine SL.sim tk 2 [(0, yv l), (1, vp 3 0), (3, vi .i64 x_7), (35, yv l), (36, vi .u64 x_9)] [] [] [] (by kernel_rfl) ?_
             refine SL.nilJ fun a w h => ?_
             exact h.at (js := [.g 0, .g 1, .g 2, .g 3, .g 4]) (by kernel_rfl)
           · refine SLI.yield (X := Unit) (Pr := fun _ => True) (itsX := fun _ => [.gone, .blk 25 [ci .u64 k_1], .blk 22 [ci .u64 o_10], .blk 31 [.s 4], .rd 1 R8 b_2]) (pl := [14]) (vs := [vi .u64 x_9]) (envA := [(0, yv l), (1, vp 3 0), (3, vi .i64 x_7)]) (envS := [(2, vp 1 0), (5, vp 2 0)]) (envB := [(2, vp 1 0), (5, vp 2 0), (6, vi .u64 x_9)]) hu hx hw hst hpe hpl (by simpa using hS.sub (lkEs_sub (e := [(2, vp 1 0), (5, vp 2 0)]) rfl)) rfl rfl rfl (by kernel_rfl) rfl rfl ?_ ?_ (fun _ => rfl) (fun _ => rfl) (fun _ _ => SLI.of ?_ rfl)
             · rw [has]
               refine SCI.reg ?_ rfl
               refine SL.sim tk 1 [(2, vp 1 0), (5, vp 2 0), (6, vi .u64 x_9)] [] [] [] (by kernel_rfl) ?_
               refine SL.nilJ fun a w h => ?_
               exact h.at (js := [.g 0, .g 1, .g 2, .g 3, .g 4]) (by kernel_rfl)
             · generalize (fx.put l (.loop { rec with state := .busy }) hu) = fx
               rw [hbo]
               have hp := e_o_10
               refine SCI.block ?_
               obtain ⟨x_11, e_x_11, hp⟩ := bind_inv hp
               refine SCI.reg ?_ rfl
               refine SL.sim tk 4 [(5, vp 2 0), (15, vi .u64 k_1), (18, vi .u64 (ixor .u64 x_6 x_9))] [] [] [] (by kernel_rfl) ?_
               refine SL.eff (e_c Tryd.call114 (ok_block_Mix F k_1 (ixor .u64 x_6 x_9) _ e_x_11) [] [vi .u64 k_1, vi .u64 (ixor .u64 x_6 x_9)] (vi .u64 x_11) (by kernel_rfl) (.inl rfl)) rfl (by kernel_rfl) ?_
               refine SL.sim tk 1 [] [(2, 22, [ci .u64 x_11])] [] [] (by kernel_rfl) ?_
               refine SL.nilJ fun a w h => ?_
               obtain rfl := some_inv' hp
               obtain ⟨κ, _, S⟩ := (show A 21 5 fx [] [.gone, .blk 25 [ci .u64 k_1], .blk 22 [ci .u64 x_11], .blk 31 [.s 4], .rd 1 R8 b_2] a w from h.at (js := [.g 0, .g 1, .g 2, .g 3, .g 4]) (by kernel_rfl))
               exact ⟨(), trivial, κ, S⟩
             · refine SL.sim tk 1 [(0, yv l), (1, vp 3 0), (3, vi .i64 x_7), (38, vb false)] [] [] [] (by kernel_rfl) ?_
               refine SL.nilJ fun a w h => ?_
               exact h.at (js := [.g 0, .g 1, .g 2, .g 3, .g 4]) (by kernel_rfl)
         · refine SC.iff rfl ?_
           refine SC.skipJ fun a w h => ?_
           exact ⟨o_10, hp, h.at (js := [.g 0, .g 1, .g 2, .g 3, .g 4]) (by kernel_rfl)⟩
     · rintro a w ⟨x_8, hp, h⟩
       refine h.go ?_
       refine SC.reg ?_
       refine SL.sim tk 3 [(0, yv l), (1, vp 3 0), (3, vi .i64 (w64 (x_7 + 8)))] [] [] [] (by kernel_rfl) ?_
       refine SL.nilJ fun a w h => ?_
       exact ⟨n1, Nat.lt_succ_self _, x_8, w64 (x_7 + 8), next_inv hp hs1, h.at (js := [.g 0, .g 1, .g 2, .g 3, .g 4]) (by kernel_rfl)⟩
   · refine SC.exitJ rfl fun a w h => ?_
     have ho := done_inv hp hs1
     replace hp := ho1
     try rw [ho] at hp
     obtain rfl := some_inv' hp
     exact A.re (js := [.g 0, .g 1, .g 2, .g 3, .g 4]) tk h (by kernel_rfl)
 · refine SL.sim tk 2 [(4, vi .u64 o_4)] [] [] [] (by kernel_rfl) ?_
   refine SL.nilJ fun a w h => ?_
   exact h.at (js := [.g 0, .g 1, .g 2, .g 3, .g 4]) (by kernel_rfl)
 · obtain rfl := some_inv' hp
   exact A.re (js := [.g 0]) tk h (by kernel_rfl)

theorem ok_mac_Derive (F : Nat) (k_1 : Int) (label_2 : List Int) (parts_3 : (List Int)) (r : Int) (hp : mac_Derive F k_1 label_2 parts_3 = some r) : Spec Tryd.prog 102 [vi .u64 k_1, vt 0, vs 1] [.str label_2, .rd 1 (RInt .u64) parts_3] (vi .u64 r) [.gone, .gone] := by
 refine Spec.enter Tryd.func102 rfl Tryd.ntmps102 rfl rfl fun fx => ?_
 refine SC.r tk [(0, vi .u64 k_1), (1, vt 0), (2, vs 1)] [] [] [] (by kernel_rfl) ?_
 refine SC.seq ?_
 refine SC.reg ?_
 refine SL.sim tk 2 [(2, vs 1), (7, vi .u64 k_1), (8, vt 0)] [] [] [] (by kernel_rfl) ?_
 obtain ⟨l_4, e_l_4, hp⟩ := bind_inv hp
 refine SL.eff (e_s2b (E := 5) tk rfl (.t rfl) e_l_4 (by kernel_rfl)) rfl (by kernel_rfl) ?_
 refine SL.eff (e_lit (sz := 1) (E := 5) (R := R8) (by_ := 1) tk [[ci .u8 0]] [0] (by kernel_rfl) ⟨Clo.int, trivial⟩ rfl (by kernel_rfl) (by kernel_rfl)) rfl (by kernel_rfl) ?_
 refine SL.sim tk 1 [(7, vi .u64 k_1), (9, vs 2), (10, vs 3), (11, vs 1)] [] [] [] (by kernel_rfl) ?_
 obtain ⟨x_5, e_x_5, hp⟩ := bind_inv hp
 refine SL.eff (e_c Tryd.call109 (ok_mac_bytes F parts_3 _ e_x_5) [.g 1] [vs 1] (vs 4) (by kernel_rfl) (.inl rfl)) rfl (by kernel_rfl) ?_
 refine SL.norm (itsN := [.str label_2, .rd 1 (RInt .u64) parts_3, .own 1 5 R8 l_4, .own 1 5 R8 [0], .rd 1 R8 x_5]) (by kernel_rfl) ?_
 refine SL.pre (pre_frz (i := 3) (sz := 1) (E := 5) (R := R8) (l := [0]) (by kernel_rfl)) ?_
 refine SL.pre (pre_frz (i := 2) (sz := 1) (E := 5) (R := R8) (l := l_4) (by kernel_rfl)) ?_
 refine SL.eff (e_lit (sz := 1) (E := 31) (R := (RSl 1 R8)) (by_ := 24) tk [[.s 2], [.s 3], [.s 4]] [l_4, [0], x_5] (by kernel_rfl) ⟨(Clo.sl (by kernel_rfl)), ⟨(Clo.sl (by kernel_rfl)), ⟨(Clo.sl (by kernel_rfl)), trivial⟩⟩⟩ rfl (by kernel_rfl) (by kernel_rfl)) rfl (by kernel_rfl) ?_
 obtain ⟨x_6, e_x_6, hp⟩ := bind_inv hp
 refine SL.pre (pre_frz (i := 5) (sz := 1) (E := 31) (R := (RSl 1 R8)) (l := [l_4, [0], x_5]) (by kernel_rfl)) ?_
 refine SL.eff (e_c Tryd.call41 (ok_octets_Join F [l_4, [0], x_5] _ e_x_6) [.g 5] [vs 5] (vs 6) (by kernel_rfl) (.inl rfl)) rfl (by kernel_rfl) ?_
 obtain ⟨x_7, e_x_7, hp⟩ := bind_inv hp
 refine SL.eff (e_c Tryd.call108 (ok_mac_Tag F k_1 x_6 _ e_x_7) [.g 6] [vi .u64 k_1, vs 6] (vi .u64 x_7) (by kernel_rfl) (.inl rfl)) rfl (by kernel_rfl) ?_
 refine SL.norm (itsN := [.str label_2, .rd 1 (RInt .u64) parts_3, .rd 1 R8 l_4, .rd 1 R8 [0], .rd 1 R8 x_5, .rd 1 (RSl 1 R8) [l_4, [0], x_5], .rd 1 R8 x_6]) (by kernel_rfl) ?_
 refine SL.sim tk 1 [(6, vi .u64 x_7)] [] [] [] (by kernel_rfl) ?_
 refine SL.nilThen ?_
 obtain rfl := some_inv' hp
 exact SC.re (js := [.g 0, .g 1]) tk (by kernel_rfl)

theorem ok_privacy_hash (F : Nat) (irk_1 : Int) (prand_2 : Int) (r : Int) (hp : privacy_hash F irk_1 prand_2 = some r) : Spec Tryd.prog 92 [vi .u64 irk_1, vi .u64 prand_2] [] (vi .u64 r) [] := by
 refine Spec.enter Tryd.func92 rfl Tryd.ntmps92 rfl rfl fun fx => ?_
 refine SC.r tk [(0, vi .u64 irk_1), (1, vi .u64 prand_2)] [] [] [] (by kernel_rfl) ?_
 refine SC.seq ?_
 refine SC.reg ?_
 refine SL.sim tk 2 [(5, vi .u64 irk_1), (6, vi .u64 prand_2)] [] [] [] (by kernel_rfl) ?_
 refine SL.eff (e_lit (sz := 1) (E := 22) (R := (RInt .u64)) (by_ := 8) tk [[ci .u64 prand_2]] [prand_2] (by kernel_rfl) ⟨Clo.int, trivial⟩ rfl (by kernel_rfl) (by kernel_rfl)) rfl (by kernel_rfl) ?_
 obtain ⟨x_3, e_x_3, hp⟩ := bind_inv hp
 refine SL.eff (e_c Tryd.call102 (ok_mac_Derive F irk_1 [114, 112, 97] [prand_2] _ e_x_3) [.k ⟨#[114, 112, 97]⟩, .l 0] [vi .u64 irk_1, .c (.v (.string ⟨#[114, 112, 97]⟩)), vs 0] (vi .u64 x_3) (by kernel_rfl) (.inr ⟨trivial, trivial, trivial⟩)) rfl (by kernel_rfl) ?_
 refine SL.sim tk 2 [(4, vi .u64 (iand .u64 x_3 16777215))] [] [] [] (by kernel_rfl) ?_
 refine SL.nilThen ?_
 obtain rfl := some_inv' hp
 exact SC.re (js := []) tk (by kernel_rfl)

theorem ok_privacy_Resolves (F : Nat) (irk_1 : Int) (a_2 : T_api_Address) (r : Bool) (hp : privacy_Resolves F irk_1 a_2 = some r) : Spec Tryd.prog 78 [vi .u64 irk_1, .g (C_api_Address a_2)] [] (vb r) [] := by
 refine Spec.enter Tryd.func78 rfl Tryd.ntmps78 rfl rfl fun fx => ?_
 refine SC.seq ?_
 refine SC.reg ?_
 refine SL.eff (e_box (E := 24) (C_api_Address a_2) (by kernel_rfl)) rfl (by kernel_rfl) ?_
 refine SL.sim tk 1 [(0, vi .u64 irk_1), (3, vp 0 0)] [] [] [] (by kernel_rfl) ?_
 refine SL.nilThen ?_
 refine SC.seq ?_
 refine SC.seq ?_
 refine SC.reg ?_
 refine SL.sim tk 8 [(0, vi .u64 irk_1), (3, vp 0 0), (13, vb ((irk_1 == 0) || (a_2.Kind != 3)))] [] [] [] (by kernel_rfl) ?_
 obtain ⟨z_4, hz, hpr⟩ := bind_inv hp
 clear hp
 refine SL.cutAt 4 (fun a w => A 29 0 fx [(0, vi .u64 irk_1), (3, vp 0 0), (17, vb z_4)] [.blk 24 (C_api_Address a_2)] a w) ?_ ?_
 · have hp := hz
   rcases Bool.eq_false_or_eq_true (((irk_1 == 0) || (a_2.Kind != 3))) with hg_3 | hg_3
   · replace hp := if_t hp hg_3
     refine SL.no rfl rfl hg_3 rfl ?_
     refine SL.no rfl rfl hg_3 rfl ?_
     refine SL.no rfl rfl hg_3 rfl ?_
     refine SL.pickt rfl hg_3 rfl rfl ?_
     refine SL.nilJ fun a w h => ?_
     obtain rfl := some_inv' hp
     exact h.at (js := [.g 0]) (by kernel_rfl)
   · replace hp := if_f hp hg_3
     refine SL.yes rfl rfl hg_3 ?_
     refine SL.sim tk 1 [(0, vi .u64 irk_1), (3, vp 0 0), (13, vb ((irk_1 == 0) || (a_2.Kind != 3))), (14, .g (C_api_Address a_2))] [] [] [] (by kernel_rfl) ?_
     refine SL.yes rfl rfl hg_3 ?_
     obtain ⟨x_10, e_x_10, hp⟩ := bind_inv hp
     refine SL.eff (e_c Tryd.call48 (ok_address_Check F a_2 _ e_x_10) [] [.g (C_api_Address a_2)] (vi .i64 x_10) (by kernel_rfl) (.inl rfl)) rfl (by kernel_rfl) ?_
     refine SL.yes rfl rfl hg_3 ?_
     refine SL.sim tk 1 [(0, vi .u64 irk_1), (3, vp 0 0), (13, vb ((irk_1 == 0) || (a_2.Kind != 3))), (16, vb (x_10 != 0))] [] [] [] (by kernel_rfl) ?_
     refine SL.pickf rfl hg_3 rfl rfl ?_
     refine SL.nilJ fun a w h => ?_
     obtain rfl := some_inv' hp
     exact h.at (js := [.g 0]) (by kernel_rfl)
 · intro a w h
   have hp := hpr; clear hpr hz
   refine h.goL ?_
   refine SL.nilThen ?_
   refine SC.if' rfl hp (fun hp => ?_) (fun hp => ?_)
   · refine SC.r tk [(4, vb false)] [] [] [] (by kernel_rfl) ?_
     obtain rfl := some_inv' hp
     exact SC.re (js := []) tk (by kernel_rfl)
   · refine SC.skipThen ?_
     refine SC.r tk [(0, vi .u64 irk_1), (3, vp 0 0), (5, vi .u64 (iand .u64 (shrp a_2.Bits 24) 4194303))] [] [.bin .shr .u64 a_2.Bits 24 (shrp a_2.Bits 24) (by kernel_rfl)] [a_2.Bits, 24] (by kernel_rfl) ?_
     refine SC.cut (fun a w => ∃ (z_5 : Bool), privacy_Resolves_j1 F z_5 = some r ∧ A 29 0 fx [(4, vb z_5)] [] a w) ?_ ?_
     · refine SC.draw MO [true] (by kernel_rfl) fun kap_6 D_7 => ?_
       refine SD.takes tk D_7 [] kn0 [0, 1, 2, 3, 4] [] [] [I, I, I, I, I, O, O, O] [(24, vi .u64 (iand .u64 a_2.Bits 16777215)), (25, vi .u64 irk_1), (26, vi .u64 (iand .u64 (shrp a_2.Bits 24) 4194303))] rfl (by kernel_rfl) (by kernel_rfl) (by kernel_rfl) ?_
       obtain ⟨x_8, e_x_8, hp⟩ := bind_inv hp
       refine SD.all1 (i := 5) (by kernel_rfl) ?_
       refine SW.eff D_7 (i := 5) (bs' := [I, I, I, I, I, I, O, O]) rfl (.inl rfl) rfl (e_c Tryd.call92 (ok_privacy_hash F irk_1 (iand .u64 (shrp a_2.Bits 24) 4194303) _ e_x_8) [] [vi .u64 irk_1, vi .u64 (iand .u64 (shrp a_2.Bits 24) 4194303)] (vi .u64 x_8) (by kernel_rfl) (.inl rfl)) (by kernel_rfl) rfl (by kernel_rfl) ?_
       refine SD.takes tk D_7 [] kn0 [6, 7] [] [] [I, I, I, I, I, I, I, I] [(4, vb ((iand .u64 a_2.Bits 16777215) == x_8))] rfl (by kernel_rfl) (by kernel_rfl) (by kernel_rfl) ?_
       refine SD.done (by kernel_rfl) fun a w h => ?_
       exact ⟨((iand .u64 a_2.Bits 16777215) == x_8), hp, h.at (js := []) (by kernel_rfl)⟩
     · rintro a w ⟨z_5, hp, h⟩
       refine h.go ?_
       obtain rfl := some_inv' hp
       exact SC.re (js := []) tk (by kernel_rfl)

theorem ok_privacy_Find_1 (F : Nat) (id_1 : T_api_Identity) (p_2 : T_api_Address) (r : Bool × T_api_Address) (hp : privacy_Find_1 F id_1 p_2 = some r) : Spec Tryd.prog 77 [.g (C_api_Identity id_1), vp 0 0] [.blk 24 (C_api_Address p_2)] (vb r.1) [.blk 24 [ci .i64 r.2.Kind, ci .u64 r.2.Bits]] := by
 refine Spec.enter Tryd.func77 rfl Tryd.ntmps77 rfl rfl fun fx => ?_
 refine SC.seq ?_
 refine SC.reg ?_
 refine SL.eff (e_box (E := 27) (C_api_Identity id_1) (by kernel_rfl)) rfl (by kernel_rfl) ?_
 refine SL.sim tk 1 [(1, vp 0 0), (2, vp 1 0)] [] [] [] (by kernel_rfl) ?_
 refine SL.nilThen ?_
 refine SC.seq ?_
 refine SC.reg ?_
 refine SL.sim tk 3 [(1, vp 0 0), (2, vp 1 0), (5, .g (C_api_Address id_1.Address)), (6, .g (C_api_Address p_2))] [] [] [] (by kernel_rfl) ?_
 refine SL.eff (e_eqs tk (cs := (C_api_Address id_1.Address)) (ds := (C_api_Address p_2)) [(id_1.Address.Kind == p_2.Kind), (id_1.Address.Bits == p_2.Bits)] ((id_1.Address.Kind == p_2.Kind) && (id_1.Address.Bits == p_2.Bits)) rfl rfl (by kernel_rfl) (by kernel_rfl) (by kernel_rfl) (.inl ⟨rfl, (by kernel_rfl)⟩)) rfl (by kernel_rfl) ?_
 refine SL.sim tk 1 [(1, vp 0 0), (2, vp 1 0), (8, vb ((id_1.Address.Kind == p_2.Kind) && (id_1.Address.Bits == p_2.Bits)))] [] [] [] (by kernel_rfl) ?_
 obtain ⟨z_4, hz, hpr⟩ := bind_inv hp
 clear hp
 refine SL.cutAt 5 (fun a w => A 14 1 fx [(13, vb z_4)] [.blk 24 (C_api_Address p_2)] a w) ?_ ?_
 · have hp := hz
   rcases Bool.eq_false_or_eq_true (((id_1.Address.Kind == p_2.Kind) && (id_1.Address.Bits == p_2.Bits))) with hg_3 | hg_3
   · replace hp := if_t hp hg_3
     refine SL.no rfl rfl hg_3 rfl ?_
     refine SL.no rfl rfl hg_3 rfl ?_
     refine SL.no rfl rfl hg_3 rfl ?_
     refine SL.no rfl rfl hg_3 rfl ?_
     refine SL.pickt rfl hg_3 rfl rfl ?_
     refine SL.nilJ fun a w h => ?_
     obtain rfl := some_inv' hp
     exact h.at (js := [.g 0]) (by kernel_rfl)
   · replace hp := if_f hp hg_3
     refine SL.yes rfl rfl hg_3 ?_
     refine SL.sim tk 1 [(1, vp 0 0), (8, vb ((id_1.Address.Kind == p_2.Kind) && (id_1.Address.Bits == p_2.Bits))), (9, vp 1 2)] [] [] [] (by kernel_rfl) ?_
     refine SL.yes rfl rfl hg_3 ?_
     refine SL.sim tk 1 [(1, vp 0 0), (8, vb ((id_1.Address.Kind == p_2.Kind) && (id_1.Address.Bits == p_2.Bits))), (10, vi .u64 id_1.IRK)] [] [] [] (by kernel_rfl) ?_
     refine SL.yes rfl rfl hg_3 ?_
     refine SL.sim tk 1 [(8, vb ((id_1.Address.Kind == p_2.Kind) && (id_1.Address.Bits == p_2.Bits))), (10, vi .u64 id_1.IRK), (11, .g (C_api_Address p_2))] [] [] [] (by kernel_rfl) ?_
     refine SL.yes rfl rfl hg_3 ?_
     obtain ⟨x_6, e_x_6, hp⟩ := bind_inv hp
     refine SL.eff (e_c Tryd.call78 (ok_privacy_Resolves F id_1.IRK p_2 _ e_x_6) [] [vi .u64 id_1.IRK, .g (C_api_Address p_2)] (vb x_6) (by kernel_rfl) (.inl rfl)) rfl (by kernel_rfl) ?_
     refine SL.norm (itsN := [.blk 24 (C_api_Address p_2), .blk 27 (C_api_Identity id_1)]) (by kernel_rfl) ?_
     refine SL.pickf rfl hg_3 rfl rfl ?_
     refine SL.nilJ fun a w h => ?_
     obtain rfl := some_inv' hp
     exact h.at (js := [.g 0]) (by kernel_rfl)
 · intro a w h
   have hp := hpr; clear hpr hz
   refine h.goL ?_
   refine SL.sim tk 1 [(3, vb z_4)] [] [] [] (by kernel_rfl) ?_
   refine SL.nilThen ?_
   obtain rfl := some_inv' hp
   exact SC.re (js := [.g 0]) tk (by kernel_rfl)

theorem ok_slices_IndexFunc_api_Identity_api_Identity_at77 (F : Nat) (s_1 : (List T_api_Identity)) (c_2 : T_api_Address) (r : Int × T_api_Address) (hp : slices_IndexFunc_api_Identity_api_Identity_at77 F s_1 c_2 = some r) : Spec Tryd.prog 76 [vs 0, .f 77 [.p 1 0]] [.rd 3 R_T_api_Identity s_1, .blk 24 (C_api_Address c_2)] (vi .i64 r.1) [.gone, .blk 24 [ci .i64 r.2.Kind, ci .u64 r.2.Bits]] := by
 refine Spec.enter Tryd.func76 rfl Tryd.ntmps76 rfl rfl fun fx => ?_
 refine SC.r tk [(0, vs 0), (1, .f 77 [.p 1 0])] [] [] [] (by kernel_rfl) ?_
 refine SC.cut (fun a w => ∃ (c_5 : T_api_Address), slices_IndexFunc_api_Identity_api_Identity_at77_j1 F c_5 = some r ∧ A 19 2 fx [] [.gone, .blk 24 (C_api_Address c_5)] a w) ?_ ?_
 · refine SC.r tk [(0, vs 0), (1, .f 77 [.p 1 0]), (7, vi .i64 (len s_1)), (8, vi .i64 0)] [] [] [] (by kernel_rfl) ?_
   refine SC.block ?_
   obtain ⟨o1, hi1, ho1⟩ := bind_inv hp
   clear hp
   refine SC.loop (fun n a w => ∃ (c_8 : T_api_Address) (x_9 : Int), iter (fun s => slices_IndexFunc_api_Identity_api_Identity_at77_l1 F s_1 s.1 s.2) n (c_8, x_9) = some o1 ∧ A 19 2 fx [(0, vs 0), (1, .f 77 [.p 1 0]), (7, vi .i64 (len s_1)), (8, vi .i64 x_9)] [.rd 3 R_T_api_Identity s_1, .blk 24 (C_api_Address c_8)] a w) F (fun a w h => ⟨c_2, 0, hi1, h.at (js := [.g 0, .g 1]) (by kernel_rfl)⟩) ?_
   rintro n1 a w ⟨c_8, x_9, hi1, h⟩
   obtain ⟨n1, q1, rfl, hp, hs1⟩ := iter_inv hi1
   replace hp : slices_IndexFunc_api_Identity_api_Identity_at77_l1 F s_1 c_8 x_9 = some q1 := hp
   clear hi1
   refine h.go ?_
   refine SC.r tk [(0, vs 0), (1, .f 77 [.p 1 0]), (7, vi .i64 (len s_1)), (8, vi .i64 x_9), (9, vb (decide (x_9 < (len s_1))))] [] [] [] (by kernel_rfl) ?_
   refine SC.seq ?_
   refine SC.if' rfl hp (fun hp => ?_) (fun hp => ?_)
   · refine SC.skipThen ?_
     refine SC.seq ?_
     refine SC.block ?_
     refine SC.r tk [(0, vs 0), (1, .f 77 [.p 1 0]), (5, vi .i64 x_9), (7, vi .i64 (len s_1)), (8, vi .i64 x_9)] [] [] [] (by kernel_rfl) ?_
     refine SC.seq ?_
     refine SC.reg ?_
     obtain ⟨x_10, e_x_10, hp⟩ := bind_inv hp
     refine SL.pre (pre_ix (i := 0) (iv := x_9) (sz := 3) (R := R_T_api_Identity) (l := s_1) (by kernel_rfl) rfl e_x_10) ?_
     refine SL.sim tk 5 [(0, vs 0), (1, .f 77 [.p 1 0]), (5, vi .i64 x_9), (7, vi .i64 (len s_1)), (8, vi .i64 x_9), (11, .f 77 [.p 1 0]), (15, .g (C_api_Identity x_10))] [] [.el 2] [x_9] (by kernel_rfl) ?_
     obtain ⟨x_11, e_x_11, hp⟩ := bind_inv hp
     refine SL.eff (e_c Tryd.call77 (ok_privacy_Find_1 F x_10 c_8 _ e_x_11) [.g 1] [.g (C_api_Identity x_10), vp 1 0] (vb x_11.1) (by kernel_rfl) (.inl rfl)) rfl (by kernel_rfl) ?_
     refine SL.nilThen ?_
     refine SC.if' rfl hp (fun hp => ?_) (fun hp => ?_)
     · refine SC.r tk [(4, vi .i64 x_9)] [] [] [] (by kernel_rfl) ?_
       have ho := done_inv hp hs1
       replace hp := ho1
       try rw [ho] at hp
       obtain rfl := some_inv' hp
       exact SC.re (js := [.g 0, .g 1]) tk (by kernel_rfl)
     · refine SC.skipThen ?_
       refine SC.reg ?_
       refine SL.sim tk 2 [(0, vs 0), (1, .f 77 [.p 1 0]), (7, vi .i64 (len s_1)), (8, vi .i64 (w64 (x_9 + 1)))] [] [] [] (by kernel_rfl) ?_
       refine SL.nilJ fun a w h => ?_
       exact ⟨n1, Nat.lt_succ_self _, x_11.2, w64 (x_9 + 1), next_inv hp hs1, h.at (js := [.g 0, .g 1]) (by kernel_rfl)⟩
   · refine SC.exitJ rfl fun a w h => ?_
     have ho := done_inv hp hs1
     replace hp := ho1
     try rw [ho] at hp
     exact ⟨c_8, hp, h.at (js := [.g 0, .g 1]) (by kernel_rfl)⟩
 · rintro a w ⟨c_5, hp, h⟩
   refine h.go ?_
   refine SC.r tk [(4, vi .i64 (-1))] [] [] [] (by kernel_rfl) ?_
   obtain rfl := some_inv' hp
   exact SC.re (js := [.g 0, .g 1]) tk (by kernel_rfl)

theorem ok_privacy_Find (F : Nat) (list_1 : (List T_api_Identity)) (a_2 : T_api_Address) (r : Int) (hp : privacy_Find F list_1 a_2 = some r) : Spec Tryd.prog 57 [vs 0, .g (C_api_Address a_2)] [.rd 3 R_T_api_Identity list_1] (vi .i64 r) [.gone] := by
 refine Spec.enter Tryd.func57 rfl Tryd.ntmps57 rfl rfl fun fx => ?_
 refine SC.seq ?_
 refine SC.reg ?_
 refine SL.eff (e_box (E := 24) (C_api_Address a_2) (by kernel_rfl)) rfl (by kernel_rfl) ?_
 refine SL.sim tk 1 [(0, vs 0), (3, vp 1 0)] [] [] [] (by kernel_rfl) ?_
 refine SL.nilThen ?_
 refine SC.seq ?_
 refine SC.seq ?_
 refine SC.reg ?_
 refine SL.sim tk 1 [(0, vs 0), (3, vp 1 0), (5, .g (C_api_Address a_2))] [] [] [] (by kernel_rfl) ?_
 obtain ⟨x_3, e_x_3, hp⟩ := bind_inv hp
 refine SL.eff (e_c Tryd.call48 (ok_address_Check F a_2 _ e_x_3) [] [.g (C_api_Address a_2)] (vi .i64 x_3) (by kernel_rfl) (.inl rfl)) rfl (by kernel_rfl) ?_
 refine SL.sim tk 1 [(0, vs 0), (3, vp 1 0), (7, vb (x_3 != 0))] [] [] [] (by kernel_rfl) ?_
 refine SL.nilThen ?_
 refine SC.if' rfl hp (fun hp => ?_) (fun hp => ?_)
 · refine SC.r tk [(4, vi .i64 (-1))] [] [] [] (by kernel_rfl) ?_
   obtain rfl := some_inv' hp
   exact SC.re (js := [.g 0]) tk (by kernel_rfl)
 · refine SC.skipThen ?_
   refine SC.seq ?_
   refine SC.reg ?_
   refine SL.sim tk 2 [(8, vs 0), (9, .f 77 [.p 1 0])] [] [] [] (by kernel_rfl) ?_
   obtain ⟨x_4, e_x_4, hp⟩ := bind_inv hp
   refine SL.eff (e_c Tryd.call76 (ok_slices_IndexFunc_api_Identity_api_Identity_at77 F list_1 a_2 _ e_x_4) [.g 0, .g 1] [vs 0, .f 77 [.p 1 0]] (vi .i64 x_4.1) (by kernel_rfl) (.inl rfl)) rfl (by kernel_rfl) ?_
   refine SL.norm (itsN := [.rd 3 R_T_api_Identity list_1, .blk 24 (C_api_Address x_4.2)]) (by kernel_rfl) ?_
   refine SL.sim tk 1 [(4, vi .i64 x_4.1)] [] [] [] (by kernel_rfl) ?_
   refine SL.nilThen ?_
   obtain rfl := some_inv' hp
   exact SC.re (js := [.g 0]) tk (by kernel_rfl)

theorem ok_bonds_Find (F : Nat) (l_1 : (List T_api_Bond)) (a_2 : T_api_Address) (r : Int) (hp : bonds_Find F l_1 a_2 = some r) : Spec Tryd.prog 25 [vs 0, .g (C_api_Address a_2)] [.rd 10 R_T_api_Bond l_1] (vi .i64 r) [.gone] := by
 refine Spec.enter Tryd.func25 rfl Tryd.ntmps25 rfl rfl fun fx => ?_
 refine SC.seq ?_
 refine SC.reg ?_
 refine SL.eff (e_box (E := 24) (C_api_Address a_2) (by kernel_rfl)) rfl (by kernel_rfl) ?_
 refine SL.sim tk 1 [(0, vs 0), (3, vp 1 0)] [] [] [] (by kernel_rfl) ?_
 refine SL.nilThen ?_
 refine SC.r tk [(0, vs 0), (3, vp 1 0), (5, vn)] [] [] [] (by kernel_rfl) ?_
 refine SC.cut (fun a w => ∃ (l_3 : (List T_api_Identity)), bonds_Find_j1 F a_2 l_3 = some r ∧ A 23 1 fx [(3, vp 1 0), (5, vs 2)] [.gone, .blk 24 (C_api_Address a_2), .own 3 27 R_T_api_Identity l_3] a w) ?_ ?_
 · refine SC.r tk [(3, vp 1 0), (5, vn), (8, vs 0), (9, vi .i64 (len l_1)), (10, vi .i64 0)] [] [] [] (by kernel_rfl) ?_
   refine SC.block ?_
   obtain ⟨o1, hi1, ho1⟩ := bind_inv hp
   clear hp
   refine SC.loop (fun n a w => ∃ (l_5 : (List T_api_Identity)) (x_6 : Int), iter (fun s => bonds_Find_l1 F l_1 s.1 s.2) n (l_5, x_6) = some o1 ∧ A 23 1 fx [(3, vp 1 0), (5, vs 2), (8, vs 0), (9, vi .i64 (len l_1)), (10, vi .i64 x_6)] [.rd 10 R_T_api_Bond l_1, .blk 24 (C_api_Address a_2), .own 3 27 R_T_api_Identity l_5] a w) F (fun a w h => ⟨[], 0, hi1, h.at (js := [.g 0, .g 1, .n]) (by kernel_rfl)⟩) ?_
   rintro n1 a w ⟨l_5, x_6, hi1, h⟩
   obtain ⟨n1, q1, rfl, hp, hs1⟩ := iter_inv hi1
   replace hp : bonds_Find_l1 F l_1 l_5 x_6 = some q1 := hp
   clear hi1
   refine h.go ?_
   refine SC.r tk [(3, vp 1 0), (5, vs 2), (8, vs 0), (9, vi .i64 (len l_1)), (10, vi .i64 x_6), (11, vb (decide (x_6 < (len l_1))))] [] [] [] (by kernel_rfl) ?_
   refine SC.seq ?_
   refine SC.if' rfl hp (fun hp => ?_) (fun hp => ?_)
   · refine SC.skipThen ?_
     refine SC.seq ?_
     refine SC.block ?_
     refine SC.seq ?_
     refine SC.reg ?_
     obtain ⟨x_7, e_x_7, hp⟩ := bind_inv hp
     refine SL.pre (pre_ix (i := 0) (iv := x_6) (sz := 10) (R := R_T_api_Bond) (l := l_1) (by kernel_rfl) rfl e_x_7) ?_
     refine SL.sim tk 2 [(3, vp 1 0), (5, vs 2), (8, vs 0), (9, vi .i64 (len l_1)), (10, vi .i64 x_6), (13, .g (C_api_Bond x_7 (.s 4)))] [] [.el 3] [x_6] (by kernel_rfl) ?_
     refine SL.eff (e_alloc (E := 30) tk (C_api_Bond (T_api_Bond.mk (T_api_Identity.mk (T_api_Address.mk 0 0) 0) 0 0 false 0 false [] 0) nl) (by kernel_rfl)) rfl (by kernel_rfl) ?_
     refine SL.sim tk 1 [(3, vp 1 0), (5, vs 2), (7, vp 5 0), (8, vs 0), (9, vi .i64 (len l_1)), (10, vi .i64 x_6)] [(5, 30, (C_api_Bond x_7 (.s 4)))] [] [] (by kernel_rfl) ?_
     refine SL.nilThen ?_
     refine SC.reg ?_
     refine SL.sim tk 3 [(3, vp 1 0), (5, vs 2), (8, vs 0), (9, vi .i64 (len l_1)), (10, vi .i64 x_6), (14, vs 2), (16, .g (C_api_Identity x_7.Peer))] [] [] [] (by kernel_rfl) ?_
     refine SL.eff (e_lit (sz := 3) (E := 27) (R := R_T_api_Identity) (by_ := 24) tk [(C_api_Identity x_7.Peer)] [x_7.Peer] (by kernel_rfl) ⟨(clo_T_api_Identity (x := x_7.Peer)), trivial⟩ rfl (by kernel_rfl) (by kernel_rfl)) rfl (by kernel_rfl) ?_
     refine SL.norm (itsN := [.rd 10 R_T_api_Bond l_1, .blk 24 (C_api_Address a_2), .own 3 27 R_T_api_Identity l_5, .elt (some (0, x_6)) false (C_api_Bond x_7 (.s 4)), .rd 2 R_T_api_Subscription x_7.Subs, .blk 30 (C_api_Bond x_7 (.s 4)), .own 3 27 R_T_api_Identity [x_7.Peer]]) (by kernel_rfl) ?_
     obtain ⟨l_8, e_l_8, hp⟩ := bind_inv hp
     refine SL.eff (e_app (i := 2) (l := l_5) (sz := 3) (E := 27) (R := R_T_api_Identity) (by_ := 24) (m := [x_7.Peer]) tk rfl (by kernel_rfl) rfl (.o 27 (by kernel_rfl)) e_l_8 (by kernel_rfl)) rfl (by kernel_rfl) ?_
     refine SL.sim tk 1 [(3, vp 1 0), (5, vs 7), (8, vs 0), (9, vi .i64 (len l_1)), (10, vi .i64 x_6)] [] [] [] (by kernel_rfl) ?_
     refine SL.nilThen ?_
     refine SC.reg ?_
     refine SL.sim tk 2 [(3, vp 1 0), (5, vs 7), (8, vs 0), (9, vi .i64 (len l_1)), (10, vi .i64 (w64 (x_6 + 1)))] [] [] [] (by kernel_rfl) ?_
     refine SL.nilJ fun a w h => ?_
     exact ⟨n1, Nat.lt_succ_self _, l_8, w64 (x_6 + 1), next_inv hp hs1, h.at (js := [.g 0, .g 1, .g 7]) (by kernel_rfl)⟩
   · refine SC.exitJ rfl fun a w h => ?_
     have ho := done_inv hp hs1
     replace hp := ho1
     try rw [ho] at hp
     exact ⟨l_5, hp, h.at (js := [.g 0, .g 1, .g 2]) (by kernel_rfl)⟩
 · rintro a w ⟨l_3, hp, h⟩
   refine h.go ?_
   refine SC.seq ?_
   refine SC.reg ?_
   refine SL.sim tk 2 [(20, vs 2), (21, .g (C_api_Address a_2))] [] [] [] (by kernel_rfl) ?_
   obtain ⟨x_4, e_x_4, hp⟩ := bind_inv hp
   refine SL.eff (e_c Tryd.call57 (ok_privacy_Find F l_3 a_2 _ e_x_4) [.l 2] [vs 2, .g (C_api_Address a_2)] (vi .i64 x_4) (by kernel_rfl) (.inr ⟨trivial, trivial⟩)) rfl (by kernel_rfl) ?_
   refine SL.sim tk 1 [(4, vi .i64 x_4)] [] [] [] (by kernel_rfl) ?_
   refine SL.nilThen ?_
   obtain rfl := some_inv' hp
   exact SC.re (js := [.g 0]) tk (by kernel_rfl)

theorem ok_wirelesslaw40_lives (F : Nat) (r : Bool) (hp : wirelesslaw40_lives F = some r) : Spec Tryd.prog 8 [] [] (vb r) [] := by
 refine Spec.enter Tryd.func8 rfl Tryd.ntmps8 rfl rfl fun fx => ?_
 refine SC.r tk [] [] [] [] (by kernel_rfl) ?_
 refine SC.seq ?_
 refine SC.reg ?_
 obtain ⟨x_1, e_x_1, hp⟩ := bind_inv hp
 refine SL.eff (e_c Tryd.call36 (ok_wirelesslaw40_one F 3 _ e_x_1) [] [vi .u64 3] (.g (C_api_Bond x_1 (.s 0))) (by kernel_rfl) (.inl rfl)) rfl (by kernel_rfl) ?_
 obtain ⟨x_2, e_x_2, hp⟩ := bind_inv hp
 refine SL.eff (e_c Tryd.call10 (ok_bonds_Encode F x_1 _ e_x_2) [.g 0] [.g (C_api_Bond x_1 (.s 0))] (.u [.inl (.s 1), .inl (ci .i64 x_2.2)]) (by kernel_rfl) (.inl rfl)) rfl (by kernel_rfl) ?_
 refine SL.norm (itsN := [.rd 2 R_T_api_Subscription x_1.Subs, .rd 1 R8 x_2.1]) (by kernel_rfl) ?_
 refine SL.sim tk 5 [(1, vs 1), (2, vi .i64 x_2.2)] [] [] [] (by kernel_rfl) ?_
 refine SL.nilThen ?_
 refine SC.seq ?_
 refine SC.reg ?_
 refine SL.eff (e_lit (sz := 1) (E := 5) (R := R8) (by_ := 1) tk [] ([] : (List Int)) (by kernel_rfl) trivial rfl (by kernel_rfl) (by kernel_rfl)) rfl (by kernel_rfl) ?_
 refine SL.sim tk 1 [(1, vs 1), (2, vi .i64 x_2.2), (16, vs 2), (17, vs 1)] [] [] [] (by kernel_rfl) ?_
 obtain ⟨l_3, e_l_3, hp⟩ := bind_inv hp
 refine SL.eff (e_app (i := 2) (l := ([] : (List Int))) (sz := 1) (E := 5) (R := R8) (by_ := 1) (m := x_2.1) tk rfl (by kernel_rfl) rfl (.r (by kernel_rfl)) e_l_3 (by kernel_rfl)) rfl (by kernel_rfl) ?_
 obtain ⟨x_4, e_x_4, hp⟩ := bind_inv hp
 refine SL.pre (pre_frz (i := 3) (sz := 1) (E := 5) (R := R8) (l := l_3) (by kernel_rfl)) ?_
 refine SL.eff (e_c Tryd.call12 (ok_bonds_Decode F l_3 _ e_x_4) [.g 3] [vs 3] (.u [.inr (C_api_Bond x_4.1 (.s 4)), .inl (ci .i64 x_4.2)]) (by kernel_rfl) (.inl rfl)) rfl (by kernel_rfl) ?_
 refine SL.norm (itsN := [.rd 2 R_T_api_Subscription x_1.Subs, .rd 1 R8 x_2.1, .gone, .rd 1 R8 l_3, .rd 2 R_T_api_Subscription x_4.1.Subs]) (by kernel_rfl) ?_
 refine SL.sim tk 3 [(1, vs 1), (2, vi .i64 x_2.2), (20, .g (C_api_Bond x_4.1 (.s 4))), (21, vi .i64 x_4.2)] [] [] [] (by kernel_rfl) ?_
 refine SL.eff (e_alloc (E := 30) tk (C_api_Bond (T_api_Bond.mk (T_api_Identity.mk (T_api_Address.mk 0 0) 0) 0 0 false 0 false [] 0) nl) (by kernel_rfl)) rfl (by kernel_rfl) ?_
 refine SL.sim tk 2 [(1, vs 1), (2, vi .i64 x_2.2), (3, vp 5 0), (4, vi .i64 x_4.2)] [(5, 30, (C_api_Bond x_4.1 (.s 4)))] [] [] (by kernel_rfl) ?_
 refine SL.nilThen ?_
 refine SC.seq ?_
 refine SC.reg ?_
 obtain ⟨x_5, e_x_5, hp⟩ := bind_inv hp
 refine SL.eff (e_c Tryd.call36 (ok_wirelesslaw40_one F 3 _ e_x_5) [] [vi .u64 3] (.g (C_api_Bond x_5 (.s 6))) (by kernel_rfl) (.inl rfl)) rfl (by kernel_rfl) ?_
 refine SL.norm (itsN := [.rd 2 R_T_api_Subscription x_1.Subs, .rd 1 R8 x_2.1, .gone, .rd 1 R8 l_3, .rd 2 R_T_api_Subscription x_4.1.Subs, .blk 30 (C_api_Bond x_4.1 (.s 4)), .rd 2 R_T_api_Subscription x_5.Subs]) (by kernel_rfl) ?_
 obtain ⟨x_6, e_x_6, hp⟩ := bind_inv hp
 refine SL.eff (e_c Tryd.call36 (ok_wirelesslaw40_one F 7 _ e_x_6) [] [vi .u64 7] (.g (C_api_Bond x_6 (.s 7))) (by kernel_rfl) (.inl rfl)) rfl (by kernel_rfl) ?_
 refine SL.eff (e_lit (sz := 10) (E := 30) (R := R_T_api_Bond) (by_ := 96) tk [(C_api_Bond x_5 (.s 6)), (C_api_Bond x_6 (.s 7))] [x_5, x_6] (by kernel_rfl) ⟨(clo_T_api_Bond (x := x_5) (Clo.sl (by kernel_rfl))), ⟨(clo_T_api_Bond (x := x_6) (Clo.sl (by kernel_rfl))), trivial⟩⟩ rfl (by kernel_rfl) (by kernel_rfl)) rfl (by kernel_rfl) ?_
 obtain ⟨x_7, e_x_7, hp⟩ := bind_inv hp
 refine SL.eff (e_c Tryd.call36 (ok_wirelesslaw40_one F 5 _ e_x_7) [] [vi .u64 5] (.g (C_api_Bond x_7 (.s 9))) (by kernel_rfl) (.inl rfl)) rfl (by kernel_rfl) ?_
 refine SL.norm (itsN := [.rd 2 R_T_api_Subscription x_1.Subs, .rd 1 R8 x_2.1, .gone, .rd 1 R8 l_3, .rd 2 R_T_api_Subscription x_4.1.Subs, .blk 30 (C_api_Bond x_4.1 (.s 4)), .rd 2 R_T_api_Subscription x_5.Subs, .rd 2 R_T_api_Subscription x_6.Subs, .own 10 30 R_T_api_Bond [x_5, x_6], .rd 2 R_T_api_Subscription x_7.Subs]) (by kernel_rfl) ?_
 obtain ⟨x_8, e_x_8, hp⟩ := bind_inv hp
 refine SL.pre (pre_frz (i := 8) (sz := 10) (E := 30) (R := R_T_api_Bond) (l := [x_5, x_6]) (by kernel_rfl)) ?_
 refine SL.eff (e_c Tryd.call18 (ok_bonds_Add F [x_5, x_6] x_7 _ e_x_8) [.g 8, .g 9] [vs 8, .g (C_api_Bond x_7 (.s 9))] (.u [.inl (.s 10), .inl (ci .i64 x_8.2.1), .inl (ci .i64 x_8.2.2)]) (by kernel_rfl) (.inl rfl)) rfl (by kernel_rfl) ?_
 refine SL.sim tk 7 [(1, vs 1), (2, vi .i64 x_2.2), (3, vp 5 0), (4, vi .i64 x_4.2), (5, vs 10), (6, vi .i64 x_8.2.1), (7, vi .i64 x_8.2.2)] [] [] [] (by kernel_rfl) ?_
 refine SL.nilThen ?_
 refine SC.seq ?_
 refine SC.reg ?_
 refine SL.sim tk 1 [(1, vs 1), (2, vi .i64 x_2.2), (3, vp 5 0), (4, vi .i64 x_4.2), (5, vs 10), (6, vi .i64 x_8.2.1), (7, vi .i64 x_8.2.2), (32, vs 10)] [] [] [] (by kernel_rfl) ?_
 obtain ⟨x_9, e_x_9, hp⟩ := bind_inv hp
 refine SL.eff (e_c Tryd.call20 (ok_bonds_Remove F x_8.1 3 _ e_x_9) [.g 10] [vs 10, vi .i64 3] (.u [.inl (.s 11), .inl (ci .i64 x_9.2)]) (by kernel_rfl) (.inl rfl)) rfl (by kernel_rfl) ?_
 refine SL.norm (itsN := [.rd 2 R_T_api_Subscription x_1.Subs, .rd 1 R8 x_2.1, .gone, .rd 1 R8 l_3, .rd 2 R_T_api_Subscription x_4.1.Subs, .blk 30 (C_api_Bond x_4.1 (.s 4)), .rd 2 R_T_api_Subscription x_5.Subs, .rd 2 R_T_api_Subscription x_6.Subs, .rd 10 R_T_api_Bond [x_5, x_6], .rd 2 R_T_api_Subscription x_7.Subs, .rd 10 R_T_api_Bond x_8.1, .rd 10 R_T_api_Bond x_9.1]) (by kernel_rfl) ?_
 refine SL.sim tk 5 [(1, vs 1), (2, vi .i64 x_2.2), (3, vp 5 0), (4, vi .i64 x_4.2), (5, vs 10), (6, vi .i64 x_8.2.1), (7, vi .i64 x_8.2.2), (9, vi .i64 x_9.2)] [] [] [] (by kernel_rfl) ?_
 refine SL.nilThen ?_
 refine SC.cut (fun a w => ∃ (z_10 : Bool), wirelesslaw40_lives_j1 F z_10 = some r ∧ A 84 0 fx [(0, vb z_10)] [] a w) ?_ ?_
 · refine SC.draw MO [I, I, O, I, I, I, I, I, I, I, I, I] (by kernel_rfl) fun kap_11 D_12 => ?_
   refine SD.takes tk D_12 [] kn0 [0, 1, 2, 3, 4, 5, 6, 7, 8, 9, 10, 11] [] [] [I, I, I, I, I, I, I, I, I, I, I, I, O, O, O, O, O, O, O, O, O, O, O, O, O, O, O, O, O, O, O, O, O, O, O, O, O, O, O, O, O, O, O, O, O, O, O, O, O] [(3, vp 5 0), (5, vs 10), (6, vi .i64 x_8.2.1), (7, vi .i64 x_8.2.2), (9, vi .i64 x_9.2), (47, vb (((x_2.2 == 0) && ((len x_2.1) == 45)) && (x_4.2 == 0)))] rfl (by kernel_rfl) (by kernel_rfl) (by kernel_rfl) ?_
   rcases Bool.eq_false_or_eq_true ((((x_2.2 == 0) && ((len x_2.1) == 45)) && (x_4.2 == 0))) with hg_13 | hg_13
   · replace hp := if_t hp hg_13
     refine SD.takes tk D_12 [(47, true)] (knS rfl hg_13 kn0) [12] [] [] [I, I, I, I, I, I, I, I, I, I, I, I, I, O, O, O, O, O, O, O, O, O, O, O, O, O, O, O, O, O, O, O, O, O, O, O, O, O, O, O, O, O, O, O, O, O, O, O, O] [(5, vs 10), (6, vi .i64 x_8.2.1), (7, vi .i64 x_8.2.2), (9, vi .i64 x_9.2), (47, vb (((x_2.2 == 0) && ((len x_2.1) == 45)) && (x_4.2 == 0))), (48, .g (C_api_Bond x_4.1 (.s 4)))] rfl (by kernel_rfl) (by kernel_rfl) (by kernel_rfl) ?_
     obtain ⟨x_14, e_x_14, hp⟩ := bind_inv hp
     refine SD.all1 (i := 13) (by kernel_rfl) ?_
     refine SW.eff D_12 (i := 13) (bs' := [I, I, I, I, I, I, I, I, I, I, I, I, I, I, O, O, O, O, O, O, O, O, O, O, O, O, O, O, O, O, O, O, O, O, O, O, O, O, O, O, O, O, O, O, O, O, O, O, O]) rfl (.inr ⟨_, _, _, _, rfl, rfl, rfl, hg_13⟩) rfl (e_c Tryd.call36 (ok_wirelesslaw40_one F 3 _ e_x_14) [] [vi .u64 3] (.g (C_api_Bond x_14 (.s 12))) (by kernel_rfl) (.inl rfl)) (by kernel_rfl) rfl (by kernel_rfl) ?_
     obtain ⟨x_15, e_x_15, hp⟩ := bind_inv hp
     refine SD.all1 (i := 14) (by kernel_rfl) ?_
     refine SW.eff D_12 (i := 14) (bs' := [I, I, I, I, I, I, I, I, I, I, I, I, I, I, I, O, O, O, O, O, O, O, O, O, O, O, O, O, O, O, O, O, O, O, O, O, O, O, O, O, O, O, O, O, O, O, O, O, O]) rfl (.inr ⟨_, _, _, _, rfl, rfl, rfl, hg_13⟩) rfl (e_c Tryd.call16 (ok_wirelessref40_SameBond F x_4.1 x_14 _ e_x_15) [.g 4, .g 12] [.g (C_api_Bond x_4.1 (.s 4)), .g (C_api_Bond x_14 (.s 12))] (vb x_15) (by kernel_rfl) (.inl rfl)) (by kernel_rfl) rfl (by kernel_rfl) ?_
     refine SD.norm (itsN := [.rd 2 R_T_api_Subscription x_1.Subs, .rd 1 R8 x_2.1, .gone, .rd 1 R8 l_3, .rd 2 R_T_api_Subscription x_4.1.Subs, .blk 30 (C_api_Bond x_4.1 (.s 4)), .rd 2 R_T_api_Subscription x_5.Subs, .rd 2 R_T_api_Subscription x_6.Subs, .rd 10 R_T_api_Bond [x_5, x_6], .rd 2 R_T_api_Subscription x_7.Subs, .rd 10 R_T_api_Bond x_8.1, .rd 10 R_T_api_Bond x_9.1, .rd 2 R_T_api_Subscription x_14.Subs]) (by kernel_rfl) ?_
     refine SD.takes tk D_12 [(47, true)] (knS rfl hg_13 kn0) [15, 16, 17, 18, 19, 20, 21, 22, 23, 24, 25, 26, 27, 28, 29] [] [] [I, I, I, I, I, I, I, I, I, I, I, I, I, I, I, I, I, I, I, I, I, I, I, I, I, I, I, I, I, I, O, O, O, O, O, O, O, O, O, O, O, O, O, O, O, O, O, O, O] [(5, vs 10), (9, vi .i64 x_9.2), (65, vb (((x_15 && (x_8.2.2 == 0)) && (x_8.2.1 == 2)) && ((len x_8.1) == 3)))] rfl (by kernel_rfl) (by kernel_rfl) (by kernel_rfl) ?_
     rcases Bool.eq_false_or_eq_true ((((x_15 && (x_8.2.2 == 0)) && (x_8.2.1 == 2)) && ((len x_8.1) == 3))) with hg_16 | hg_16
     · replace hp := if_t hp hg_16
       refine SD.takes tk D_12 [(65, true)] (knS rfl hg_16 kn0) [30] [] [] [I, I, I, I, I, I, I, I, I, I, I, I, I, I, I, I, I, I, I, I, I, I, I, I, I, I, I, I, I, I, I, O, O, O, O, O, O, O, O, O, O, O, O, O, O, O, O, O, O] [(5, vs 10), (9, vi .i64 x_9.2), (65, vb (((x_15 && (x_8.2.2 == 0)) && (x_8.2.1 == 2)) && ((len x_8.1) == 3))), (66, vs 10)] rfl (by kernel_rfl) (by kernel_rfl) (by kernel_rfl) ?_
       obtain ⟨x_17, e_x_17, hp⟩ := bind_inv hp
       refine SD.pre (pre_ix (i := 10) (iv := 2) (sz := 10) (R := R_T_api_Bond) (l := x_8.1) (by kernel_rfl) rfl e_x_17) ?_
       refine SD.all1 (i := 31) (by kernel_rfl) ?_
       refine SW.eff D_12 (i := 31) (v := vp 13 0) (bs' := [I, I, I, I, I, I, I, I, I, I, I, I, I, I, I, I, I, I, I, I, I, I, I, I, I, I, I, I, I, I, I, I, O, O, O, O, O, O, O, O, O, O, O, O, O, O, O, O, O]) rfl (.inr ⟨_, _, _, _, rfl, rfl, rfl, hg_16⟩) rfl (e_valE tk (.el 13) [2] (by kernel_rfl)) (by kernel_rfl) rfl (by kernel_rfl) ?_
       refine SD.all1 (i := 32) (by kernel_rfl) ?_
       refine SW.eff D_12 (i := 32) (v := vp 13 9) (bs' := [I, I, I, I, I, I, I, I, I, I, I, I, I, I, I, I, I, I, I, I, I, I, I, I, I, I, I, I, I, I, I, I, I, O, O, O, O, O, O, O, O, O, O, O, O, O, O, O, O]) rfl (.inr ⟨_, _, _, _, rfl, rfl, rfl, hg_16⟩) rfl (e_val tk (by kernel_rfl)) (by kernel_rfl) rfl (by kernel_rfl) ?_
       refine SD.norm (itsN := [.rd 2 R_T_api_Subscription x_1.Subs, .rd 1 R8 x_2.1, .gone, .rd 1 R8 l_3, .rd 2 R_T_api_Subscription x_4.1.Subs, .blk 30 (C_api_Bond x_4.1 (.s 4)), .rd 2 R_T_api_Subscription x_5.Subs, .rd 2 R_T_api_Subscription x_6.Subs, .rd 10 R_T_api_Bond [x_5, x_6], .rd 2 R_T_api_Subscription x_7.Subs, .rd 10 R_T_api_Bond x_8.1, .rd 10 R_T_api_Bond x_9.1, .rd 2 R_T_api_Subscription x_14.Subs, .elt (some (10, 2)) false (C_api_Bond x_17 (.s 14)), .rd 2 R_T_api_Subscription x_17.Subs]) (by kernel_rfl) ?_
       refine SD.all1 (i := 33) (by kernel_rfl) ?_
       refine SW.eff D_12 (i := 33) (v := vi .i64 x_17.Used) (bs' := [I, I, I, I, I, I, I, I, I, I, I, I, I, I, I, I, I, I, I, I, I, I, I, I, I, I, I, I, I, I, I, I, I, I, O, O, O, O, O, O, O, O, O, O, O, O, O, O, O]) rfl (.inr ⟨_, _, _, _, rfl, rfl, rfl, hg_16⟩) rfl (e_val tk (by kernel_rfl)) (by kernel_rfl) rfl (by kernel_rfl) ?_
       refine SD.takes tk D_12 [(65, true)] (knS rfl hg_16 kn0) [34, 35, 36, 37, 38, 39, 40] [] [] [I, I, I, I, I, I, I, I, I, I, I, I, I, I, I, I, I, I, I, I, I, I, I, I, I, I, I, I, I, I, I, I, I, I, I, I, I, I, I, I, I, O, O, O, O, O, O, O, O] [(5, vs 10), (76, vb ((x_17.Used == 8) && (x_9.2 == 5)))] rfl (by kernel_rfl) (by kernel_rfl) (by kernel_rfl) ?_
       rcases Bool.eq_false_or_eq_true (((x_17.Used == 8) && (x_9.2 == 5))) with hg_18 | hg_18
       · replace hp := if_t hp hg_18
         refine SD.takes tk D_12 [(76, true)] (knS rfl hg_18 kn0) [41] [] [] [I, I, I, I, I, I, I, I, I, I, I, I, I, I, I, I, I, I, I, I, I, I, I, I, I, I, I, I, I, I, I, I, I, I, I, I, I, I, I, I, I, I, O, O, O, O, O, O, O] [(76, vb ((x_17.Used == 8) && (x_9.2 == 5))), (77, vs 10)] rfl (by kernel_rfl) (by kernel_rfl) (by kernel_rfl) ?_
         obtain ⟨x_19, e_x_19, hp⟩ := bind_inv hp
         refine SD.all1 (i := 42) (by kernel_rfl) ?_
         refine SW.eff D_12 (i := 42) (bs' := [I, I, I, I, I, I, I, I, I, I, I, I, I, I, I, I, I, I, I, I, I, I, I, I, I, I, I, I, I, I, I, I, I, I, I, I, I, I, I, I, I, I, I, O, O, O, O, O, O]) rfl (.inr ⟨_, _, _, _, rfl, rfl, rfl, hg_18⟩) rfl (e_c Tryd.call36 (ok_wirelesslaw40_one F 7 _ e_x_19) [] [vi .u64 7] (.g (C_api_Bond x_19 (.s 15))) (by kernel_rfl) (.inl rfl)) (by kernel_rfl) rfl (by kernel_rfl) ?_
         refine SD.norm (itsN := [.rd 2 R_T_api_Subscription x_1.Subs, .rd 1 R8 x_2.1, .gone, .rd 1 R8 l_3, .rd 2 R_T_api_Subscription x_4.1.Subs, .blk 30 (C_api_Bond x_4.1 (.s 4)), .rd 2 R_T_api_Subscription x_5.Subs, .rd 2 R_T_api_Subscription x_6.Subs, .rd 10 R_T_api_Bond [x_5, x_6], .rd 2 R_T_api_Subscription x_7.Subs, .rd 10 R_T_api_Bond x_8.1, .rd 10 R_T_api_Bond x_9.1, .rd 2 R_T_api_Subscription x_14.Subs, .elt (some (10, 2)) false (C_api_Bond x_17 (.s 14)), .rd 2 R_T_api_Subscription x_17.Subs, .rd 2 R_T_api_Subscription x_19.Subs]) (by kernel_rfl) ?_
         refine SD.takes tk D_12 [(76, true)] (knS rfl hg_18 kn0) [43, 44] [] [] [I, I, I, I, I, I, I, I, I, I, I, I, I, I, I, I, I, I, I, I, I, I, I, I, I, I, I, I, I, I, I, I, I, I, I, I, I, I, I, I, I, I, I, I, I, O, O, O, O] [(76, vb ((x_17.Used == 8) && (x_9.2 == 5))), (77, vs 10), (80, .g (C_api_Address x_19.Peer.Address))] rfl (by kernel_rfl) (by kernel_rfl) (by kernel_rfl) ?_
         obtain ⟨x_20, e_x_20, hp⟩ := bind_inv hp
         refine SD.all1 (i := 45) (by kernel_rfl) ?_
         refine SW.eff D_12 (i := 45) (bs' := [I, I, I, I, I, I, I, I, I, I, I, I, I, I, I, I, I, I, I, I, I, I, I, I, I, I, I, I, I, I, I, I, I, I, I, I, I, I, I, I, I, I, I, I, I, I, O, O, O]) rfl (.inr ⟨_, _, _, _, rfl, rfl, rfl, hg_18⟩) rfl (e_c Tryd.call25 (ok_bonds_Find F x_8.1 x_19.Peer.Address _ e_x_20) [.g 10] [vs 10, .g (C_api_Address x_19.Peer.Address)] (vi .i64 x_20) (by kernel_rfl) (.inl rfl)) (by kernel_rfl) rfl (by kernel_rfl) ?_
         refine SD.takes tk D_12 [(76, true)] (knS rfl hg_18 kn0) [46, 47, 48] [] [] [I, I, I, I, I, I, I, I, I, I, I, I, I, I, I, I, I, I, I, I, I, I, I, I, I, I, I, I, I, I, I, I, I, I, I, I, I, I, I, I, I, I, I, I, I, I, I, I, I] [(0, vb (x_20 == 1))] rfl (by kernel_rfl) (by kernel_rfl) (by kernel_rfl) ?_
         refine SD.done (by kernel_rfl) fun a w h => ?_
         exact ⟨(x_20 == 1), hp, h.at (js := []) (by kernel_rfl)⟩
       · replace hp := if_f hp hg_18
         refine SD.takes tk D_12 [(76, false)] (knS rfl hg_18 kn0) [41, 42, 43, 44, 45, 46, 47, 48] [] [] [I, I, I, I, I, I, I, I, I, I, I, I, I, I, I, I, I, I, I, I, I, I, I, I, I, I, I, I, I, I, I, I, I, I, I, I, I, I, I, I, I, I, I, I, I, I, I, I, I] [(0, vb false)] rfl (by kernel_rfl) (by kernel_rfl) (by kernel_rfl) ?_
         refine SD.done (by kernel_rfl) fun a w h => ?_
         exact ⟨false, hp, h.at (js := []) (by kernel_rfl)⟩
     · replace hp := if_f hp hg_16
       refine SD.takes tk D_12 [(65, false)] (knS rfl hg_16 kn0) [30, 31, 32, 33, 34, 35, 36, 37, 38, 39, 40] [] [] [I, I, I, I, I, I, I, I, I, I, I, I, I, I, I, I, I, I, I, I, I, I, I, I, I, I, I, I, I, I, I, I, I, I, I, I, I, I, I, I, I, O, O, O, O, O, O, O, O] [(5, vs 10), (76, vb (false && (x_9.2 == 5)))] rfl (by kernel_rfl) (by kernel_rfl) (by kernel_rfl) ?_
       rcases Bool.eq_false_or_eq_true ((false && (x_9.2 == 5))) with hg_21 | hg_21
       · replace hp := if_t hp hg_21
         refine SD.takes tk D_12 [(76, true)] (knS rfl hg_21 kn0) [41] [] [] [I, I, I, I, I, I, I, I, I, I, I, I, I, I, I, I, I, I, I, I, I, I, I, I, I, I, I, I, I, I, I, I, I, I, I, I, I, I, I, I, I, I, O, O, O, O, O, O, O] [(76, vb (false && (x_9.2 == 5))), (77, vs 10)] rfl (by kernel_rfl) (by kernel_rfl) (by kernel_rfl) ?_
         obtain ⟨x_22, e_x_22, hp⟩ := bind_inv hp
         refine SD.all1 (i := 42) (by kernel_rfl) ?_
         refine SW.eff D_12 (i := 42) (bs' := [I, I, I, I, I, I, I, I, I, I, I, I, I, I, I, I, I, I, I, I, I, I, I, I, I, I, I, I, I, I, I, I, I, I, I, I, I, I, I, I, I, I, I, O, O, O, O, O, O]) rfl (.inr ⟨_, _, _, _, rfl, rfl, rfl, hg_21⟩) rfl (e_c Tryd.call36 (ok_wirelesslaw40_one F 7 _ e_x_22) [] [vi .u64 7] (.g (C_api_Bond x_22 (.s 13))) (by kernel_rfl) (.inl rfl)) (by kernel_rfl) rfl (by kernel_rfl) ?_
         refine SD.takes tk D_12 [(76, true)] (knS rfl hg_21 kn0) [43, 44] [] [] [I, I, I, I, I, I, I, I, I, I, I, I, I, I, I, I, I, I, I, I, I, I, I, I, I, I, I, I, I, I, I, I, I, I, I, I, I, I, I, I, I, I, I, I, I, O, O, O, O] [(76, vb (false && (x_9.2 == 5))), (77, vs 10), (80, .g (C_api_Address x_22.Peer.Address))] rfl (by kernel_rfl) (by kernel_rfl) (by kernel_rfl) ?_
         obtain ⟨x_23, e_x_23, hp⟩ := bind_inv hp
         refine SD.all1 (i := 45) (by kernel_rfl) ?_
         refine SW.eff D_12 (i := 45) (bs' := [I, I, I, I, I, I, I, I, I, I, I, I, I, I, I, I, I, I, I, I, I, I, I, I, I, I, I, I, I, I, I, I, I, I, I, I, I, I, I, I, I, I, I, I, I, I, O, O, O]) rfl (.inr ⟨_, _, _, _, rfl, rfl, rfl, hg_21⟩) rfl (e_c Tryd.call25 (ok_bonds_Find F x_8.1 x_22.Peer.Address _ e_x_23) [.g 10] [vs 10, .g (C_api_Address x_22.Peer.Address)] (vi .i64 x_23) (by kernel_rfl) (.inl rfl)) (by kernel_rfl) rfl (by kernel_rfl) ?_
         refine SD.norm (itsN := [.rd 2 R_T_api_Subscription x_1.Subs, .rd 1 R8 x_2.1, .gone, .rd 1 R8 l_3, .rd 2 R_T_api_Subscription x_4.1.Subs, .blk 30 (C_api_Bond x_4.1 (.s 4)), .rd 2 R_T_api_Subscription x_5.Subs, .rd 2 R_T_api_Subscription x_6.Subs, .rd 10 R_T_api_Bond [x_5, x_6], .rd 2 R_T_api_Subscription x_7.Subs, .rd 10 R_T_api_Bond x_8.1, .rd 10 R_T_api_Bond x_9.1, .rd 2 R_T_api_Subscription x_14.Subs, .rd 2 R_T_api_Subscription x_22.Subs]) (by kernel_rfl) ?_
         refine SD.takes tk D_12 [(76, true)] (knS rfl hg_21 kn0) [46, 47, 48] [] [] [I, I, I, I, I, I, I, I, I, I, I, I, I, I, I, I, I, I, I, I, I, I, I, I, I, I, I, I, I, I, I, I, I, I, I, I, I, I, I, I, I, I, I, I, I, I, I, I, I] [(0, vb (x_23 == 1))] rfl (by kernel_rfl) (by kernel_rfl) (by kernel_rfl) ?_
         refine SD.done (by kernel_rfl) fun a w h => ?_
         exact ⟨(x_23 == 1), hp, h.at (js := []) (by kernel_rfl)⟩
       · replace hp := if_f hp hg_21
         refine SD.takes tk D_12 [(76, false)] (knS rfl hg_21 kn0) [41, 42, 43, 44, 45, 46, 47, 48] [] [] [I, I, I, I, I, I, I, I, I, I, I, I, I, I, I, I, I, I, I, I, I, I, I, I, I, I, I, I, I, I, I, I, I, I, I, I, I, I, I, I, I, I, I, I, I, I, I, I, I] [(0, vb false)] rfl (by kernel_rfl) (by kernel_rfl) (by kernel_rfl) ?_
         refine SD.done (by kernel_rfl) fun a w h => ?_
         exact ⟨false, hp, h.at (js := []) (by kernel_rfl)⟩
   · replace hp := if_f hp hg_13
     refine SD.takes tk D_12 [(47, false)] (knS rfl hg_13 kn0) [12, 13, 14, 15, 16, 17, 18, 19, 20, 21, 22, 23, 24, 25, 26, 27, 28, 29] [] [] [I, I, I, I, I, I, I, I, I, I, I, I, I, I, I, I, I, I, I, I, I, I, I, I, I, I, I, I, I, I, O, O, O, O, O, O, O, O, O, O, O, O, O, O, O, O, O, O, O] [(5, vs 10), (9, vi .i64 x_9.2), (65, vb (((false && (x_8.2.2 == 0)) && (x_8.2.1 == 2)) && ((len x_8.1) == 3)))] rfl (by kernel_rfl) (by kernel_rfl) (by kernel_rfl) ?_
     rcases Bool.eq_false_or_eq_true ((((false && (x_8.2.2 == 0)) && (x_8.2.1 == 2)) && ((len x_8.1) == 3))) with hg_24 | hg_24
     · replace hp := if_t hp hg_24
       refine SD.takes tk D_12 [(65, true)] (knS rfl hg_24 kn0) [30] [] [] [I, I, I, I, I, I, I, I, I, I, I, I, I, I, I, I, I, I, I, I, I, I, I, I, I, I, I, I, I, I, I, O, O, O, O, O, O, O, O, O, O, O, O, O, O, O, O, O, O] [(5, vs 10), (9, vi .i64 x_9.2), (65, vb (((false && (x_8.2.2 == 0)) && (x_8.2.1 == 2)) && ((len x_8.1) == 3))), (66, vs 10)] rfl (by kernel_rfl) (by kernel_rfl) (by kernel_rfl) ?_
       obtain ⟨x_25, e_x_25, hp⟩ := bind_inv hp
       refine SD.pre (pre_ix (i := 10) (iv := 2) (sz := 10) (R := R_T_api_Bond) (l := x_8.1) (by kernel_rfl) rfl e_x_25) ?_
       refine SD.all1 (i := 31) (by kernel_rfl) ?_
       refine SW.eff D_12 (i := 31) (v := vp 12 0) (bs' := [I, I, I, I, I, I, I, I, I, I, I, I, I, I, I, I, I, I, I, I, I, I, I, I, I, I, I, I, I, I, I, I, O, O, O, O, O, O, O, O, O, O, O, O, O, O, O, O, O]) rfl (.inr ⟨_, _, _, _, rfl, rfl, rfl, hg_24⟩) rfl (e_valE tk (.el 12) [2] (by kernel_rfl)) (by kernel_rfl) rfl (by kernel_rfl) ?_
       refine SD.all1 (i := 32) (by kernel_rfl) ?_
       refine SW.eff D_12 (i := 32) (v := vp 12 9) (bs' := [I, I, I, I, I, I, I, I, I, I, I, I, I, I, I, I, I, I, I, I, I, I, I, I, I, I, I, I, I, I, I, I, I, O, O, O, O, O, O, O, O, O, O, O, O, O, O, O, O]) rfl (.inr ⟨_, _, _, _, rfl, rfl, rfl, hg_24⟩) rfl (e_val tk (by kernel_rfl)) (by kernel_rfl) rfl (by kernel_rfl) ?_
       refine SD.norm (itsN := [.rd 2 R_T_api_Subscription x_1.Subs, .rd 1 R8 x_2.1, .gone, .rd 1 R8 l_3, .rd 2 R_T_api_Subscription x_4.1.Subs, .blk 30 (C_api_Bond x_4.1 (.s 4)), .rd 2 R_T_api_Subscription x_5.Subs, .rd 2 R_T_api_Subscription x_6.Subs, .rd 10 R_T_api_Bond [x_5, x_6], .rd 2 R_T_api_Subscription x_7.Subs, .rd 10 R_T_api_Bond x_8.1, .rd 10 R_T_api_Bond x_9.1, .elt (some (10, 2)) false (C_api_Bond x_25 (.s 13)), .rd 2 R_T_api_Subscription x_25.Subs]) (by kernel_rfl) ?_
       refine SD.all1 (i := 33) (by kernel_rfl) ?_
       refine SW.eff D_12 (i := 33) (v := vi .i64 x_25.Used) (bs' := [I, I, I, I, I, I, I, I, I, I, I, I, I, I, I, I, I, I, I, I, I, I, I, I, I, I, I, I, I, I, I, I, I, I, O, O, O, O, O, O, O, O, O, O, O, O, O, O, O]) rfl (.inr ⟨_, _, _, _, rfl, rfl, rfl, hg_24⟩) rfl (e_val tk (by kernel_rfl)) (by kernel_rfl) rfl (by kernel_rfl) ?_
       refine SD.takes tk D_12 [(65, true)] (knS rfl hg_24 kn0) [34, 35, 36, 37, 38, 39, 40] [] [] [I, I, I, I, I, I, I, I, I, I, I, I, I, I, I, I, I, I, I, I, I, I, I, I, I, I, I, I, I, I, I, I, I, I, I, I, I, I, I, I, I, O, O, O, O, O, O, O, O] [(5, vs 10), (76, vb ((x_25.Used == 8) && (x_9.2 == 5)))] rfl (by kernel_rfl) (by kernel_rfl) (by kernel_rfl) ?_
       rcases Bool.eq_false_or_eq_true (((x_25.Used == 8) && (x_9.2 == 5))) with hg_26 | hg_26
       · replace hp := if_t hp hg_26
         refine SD.takes tk D_12 [(76, true)] (knS rfl hg_26 kn0) [41] [] [] [I, I, I, I, I, I, I, I, I, I, I, I, I, I, I, I, I, I, I, I, I, I, I, I, I, I, I, I, I, I, I, I, I, I, I, I, I, I, I, I, I, I, O, O, O, O, O, O, O] [(76, vb ((x_25.Used == 8) && (x_9.2 == 5))), (77, vs 10)] rfl (by kernel_rfl) (by kernel_rfl) (by kernel_rfl) ?_
         obtain ⟨x_27, e_x_27, hp⟩ := bind_inv hp
         refine SD.all1 (i := 42) (by kernel_rfl) ?_
         refine SW.eff D_12 (i := 42) (bs' := [I, I, I, I, I, I, I, I, I, I, I, I, I, I, I, I, I, I, I, I, I, I, I, I, I, I, I, I, I, I, I, I, I, I, I, I, I, I, I, I, I, I, I, O, O, O, O, O, O]) rfl (.inr ⟨_, _, _, _, rfl, rfl, rfl, hg_26⟩) rfl (e_c Tryd.call36 (ok_wirelesslaw40_one F 7 _ e_x_27) [] [vi .u64 7] (.g (C_api_Bond x_27 (.s 14))) (by kernel_rfl) (.inl rfl)) (by kernel_rfl) rfl (by kernel_rfl) ?_
         refine SD.norm (itsN := [.rd 2 R_T_api_Subscription x_1.Subs, .rd 1 R8 x_2.1, .gone, .rd 1 R8 l_3, .rd 2 R_T_api_Subscription x_4.1.Subs, .blk 30 (C_api_Bond x_4.1 (.s 4)), .rd 2 R_T_api_Subscription x_5.Subs, .rd 2 R_T_api_Subscription x_6.Subs, .rd 10 R_T_api_Bond [x_5, x_6], .rd 2 R_T_api_Subscription x_7.Subs, .rd 10 R_T_api_Bond x_8.1, .rd 10 R_T_api_Bond x_9.1, .elt (some (10, 2)) false (C_api_Bond x_25 (.s 13)), .rd 2 R_T_api_Subscription x_25.Subs, .rd 2 R_T_api_Subscription x_27.Subs]) (by kernel_rfl) ?_
         refine SD.takes tk D_12 [(76, true)] (knS rfl hg_26 kn0) [43, 44] [] [] [I, I, I, I, I, I, I, I, I, I, I, I, I, I, I, I, I, I, I, I, I, I, I, I, I, I, I, I, I, I, I, I, I, I, I, I, I, I, I, I, I, I, I, I, I, O, O, O, O] [(76, vb ((x_25.Used == 8) && (x_9.2 == 5))), (77, vs 10), (80, .g (C_api_Address x_27.Peer.Address))] rfl (by kernel_rfl) (by kernel_rfl) (by kernel_rfl) ?_
         obtain ⟨x_28, e_x_28, hp⟩ := bind_inv hp
         refine SD.all1 (i := 45) (by kernel_rfl) ?_
         refine SW.eff D_12 (i := 45) (bs' := [I, I, I, I, I, I, I, I, I, I, I, I, I, I, I, I, I, I, I, I, I, I, I, I, I, I, I, I, I, I, I, I, I, I, I, I, I, I, I, I, I, I, I, I, I, I, O, O, O]) rfl (.inr ⟨_, _, _, _, rfl, rfl, rfl, hg_26⟩) rfl (e_c Tryd.call25 (ok_bonds_Find F x_8.1 x_27.Peer.Address _ e_x_28) [.g 10] [vs 10, .g (C_api_Address x_27.Peer.Address)] (vi .i64 x_28) (by kernel_rfl) (.inl rfl)) (by kernel_rfl) rfl (by kernel_rfl) ?_
         refine SD.takes tk D_12 [(76, true)] (knS rfl hg_26 kn0) [46, 47, 48] [] [] [I, I, I, I, I, I, I, I, I, I, I, I, I, I, I, I, I, I, I, I, I, I, I, I, I, I, I, I, I, I, I, I, I, I, I, I, I, I, I, I, I, I, I, I, I, I, I, I, I] [(0, vb (x_28 == 1))] rfl (by kernel_rfl) (by kernel_rfl) (by kernel_rfl) ?_
         refine SD.done (by kernel_rfl) fun a w h => ?_
         exact ⟨(x_28 == 1), hp, h.at (js := []) (by kernel_rfl)⟩
       · replace hp := if_f hp hg_26
         refine SD.takes tk D_12 [(76, false)] (knS rfl hg_26 kn0) [41, 42, 43, 44, 45, 46, 47, 48] [] [] [I, I, I, I, I, I, I, I, I, I, I, I, I, I, I, I, I, I, I, I, I, I, I, I, I, I, I, I, I, I, I, I, I, I, I, I, I, I, I, I, I, I, I, I, I, I, I, I, I] [(0, vb false)] rfl (by kernel_rfl) (by kernel_rfl) (by kernel_rfl) ?_
         refine SD.done (by kernel_rfl) fun a w h => ?_
         exact ⟨false, hp, h.at (js := []) (by kernel_rfl)⟩
     · replace hp := if_f hp hg_24
       refine SD.takes tk D_12 [(65, false)] (knS rfl hg_24 kn0) [30, 31, 32, 33, 34, 35, 36, 37, 38, 39, 40] [] [] [I, I, I, I, I, I, I, I, I, I, I, I, I, I, I, I, I, I, I, I, I, I, I, I, I, I, I, I, I, I, I, I, I, I, I, I, I, I, I, I, I, O, O, O, O, O, O, O, O] [(5, vs 10), (76, vb (false && (x_9.2 == 5)))] rfl (by kernel_rfl) (by kernel_rfl) (by kernel_rfl) ?_
       rcases Bool.eq_false_or_eq_true ((false && (x_9.2 == 5))) with hg_29 | hg_29
       · replace hp := if_t hp hg_29
         refine SD.takes tk D_12 [(76, true)] (knS rfl hg_29 kn0) [41] [] [] [I, I, I, I, I, I, I, I, I, I, I, I, I, I, I, I, I, I, I, I, I, I, I, I, I, I, I, I, I, I, I, I, I, I, I, I, I, I, I, I, I, I, O, O, O, O, O, O, O] [(76, vb (false && (x_9.2 == 5))), (77, vs 10)] rfl (by kernel_rfl) (by kernel_rfl) (by kernel_rfl) ?_
         obtain ⟨x_30, e_x_30, hp⟩ := bind_inv hp
         refine SD.all1 (i := 42) (by kernel_rfl) ?_
         refine SW.eff D_12 (i := 42) (bs' := [I, I, I, I, I, I, I, I, I, I, I, I, I, I, I, I, I, I, I, I, I, I, I, I, I, I, I, I, I, I, I, I, I, I, I, I, I, I, I, I, I, I, I, O, O, O, O, O, O]) rfl (.inr ⟨_, _, _, _, rfl, rfl, rfl, hg_29⟩) rfl (e_c Tryd.call36 (ok_wirelesslaw40_one F 7 _ e_x_30) [] [vi .u64 7] (.g (C_api_Bond x_30 (.s 12))) (by kernel_rfl) (.inl rfl)) (by kernel_rfl) rfl (by kernel_rfl) ?_
         refine SD.takes tk D_12 [(76, true)] (knS rfl hg_29 kn0) [43, 44] [] [] [I, I, I, I, I, I, I, I, I, I, I, I, I, I, I, I, I, I, I, I, I, I, I, I, I, I, I, I, I, I, I, I, I, I, I, I, I, I, I, I, I, I, I, I, I, O, O, O, O] [(76, vb (false && (x_9.2 == 5))), (77, vs 10), (80, .g (C_api_Address x_30.Peer.Address))] rfl (by kernel_rfl) (by kernel_rfl) (by kernel_rfl) ?_
         obtain ⟨x_31, e_x_31, hp⟩ := bind_inv hp
         refine SD.all1 (i := 45) (by kernel_rfl) ?_
         refine SW.eff D_12 (i := 45) (bs' := [I, I, I, I, I, I, I, I, I, I, I, I, I, I, I, I, I, I, I, I, I, I, I, I, I, I, I, I, I, I, I, I, I, I, I, I, I, I, I, I, I, I, I, I, I, I, O, O, O]) rfl (.inr ⟨_, _, _, _, rfl, rfl, rfl, hg_29⟩) rfl (e_c Tryd.call25 (ok_bonds_Find F x_8.1 x_30.Peer.Address _ e_x_31) [.g 10] [vs 10, .g (C_api_Address x_30.Peer.Address)] (vi .i64 x_31) (by kernel_rfl) (.inl rfl)) (by kernel_rfl) rfl (by kernel_rfl) ?_
         refine SD.norm (itsN := [.rd 2 R_T_api_Subscription x_1.Subs, .rd 1 R8 x_2.1, .gone, .rd 1 R8 l_3, .rd 2 R_T_api_Subscription x_4.1.Subs, .blk 30 (C_api_Bond x_4.1 (.s 4)), .rd 2 R_T_api_Subscription x_5.Subs, .rd 2 R_T_api_Subscription x_6.Subs, .rd 10 R_T_api_Bond [x_5, x_6], .rd 2 R_T_api_Subscription x_7.Subs, .rd 10 R_T_api_Bond x_8.1, .rd 10 R_T_api_Bond x_9.1, .rd 2 R_T_api_Subscription x_30.Subs]) (by kernel_rfl) ?_
         refine SD.takes tk D_12 [(76, true)] (knS rfl hg_29 kn0) [46, 47, 48] [] [] [I, I, I, I, I, I, I, I, I, I, I, I, I, I, I, I, I, I, I, I, I, I, I, I, I, I, I, I, I, I, I, I, I, I, I, I, I, I, I, I, I, I, I, I, I, I, I, I, I] [(0, vb (x_31 == 1))] rfl (by kernel_rfl) (by kernel_rfl) (by kernel_rfl) ?_
         refine SD.done (by kernel_rfl) fun a w h => ?_
         exact ⟨(x_31 == 1), hp, h.at (js := []) (by kernel_rfl)⟩
       · replace hp := if_f hp hg_29
         refine SD.takes tk D_12 [(76, false)] (knS rfl hg_29 kn0) [41, 42, 43, 44, 45, 46, 47, 48] [] [] [I, I, I, I, I, I, I, I, I, I, I, I, I, I, I, I, I, I, I, I, I, I, I, I, I, I, I, I, I, I, I, I, I, I, I, I, I, I, I, I, I, I, I, I, I, I, I, I, I] [(0, vb false)] rfl (by kernel_rfl) (by kernel_rfl) (by kernel_rfl) ?_
         refine SD.done (by kernel_rfl) fun a w h => ?_
         exact ⟨false, hp, h.at (js := []) (by kernel_rfl)⟩
 · rintro a w ⟨z_10, hp, h⟩
   refine h.go ?_
   obtain rfl := some_inv' hp
   exact SC.re (js := []) tk (by kernel_rfl)

theorem ok_wirelessref08_prefix (F : Nat) (kind_1 : Int) (r : Int) (hp : wirelessref08_prefix F kind_1 = some r) : Spec Tryd.prog 72 [vi .i64 kind_1] [] (vi .u64 r) [] := by
 refine Spec.enter Tryd.func72 rfl Tryd.ntmps72 rfl rfl fun fx => ?_
 refine SC.r tk [(0, vi .i64 kind_1)] [] [] [] (by kernel_rfl) ?_
 refine SC.seq ?_
 refine SC.r tk [(3, vi .i64 kind_1)] [] [] [] (by kernel_rfl) ?_
 refine SC.block ?_
 refine SC.r tk [(3, vi .i64 kind_1), (4, vb (kind_1 == 2))] [] [] [] (by kernel_rfl) ?_
 refine SC.if' rfl hp (fun hp => ?_) (fun hp => ?_)
 · refine SC.r tk [(2, vi .u64 3)] [] [] [] (by kernel_rfl) ?_
   obtain rfl := some_inv' hp
   exact SC.re (js := []) tk (by kernel_rfl)
 · refine SC.r tk [(6, vb (kind_1 == 3))] [] [] [] (by kernel_rfl) ?_
   refine SC.if' rfl hp (fun hp => ?_) (fun hp => ?_)
   · refine SC.r tk [(2, vi .u64 1)] [] [] [] (by kernel_rfl) ?_
     obtain rfl := some_inv' hp
     exact SC.re (js := []) tk (by kernel_rfl)
   · refine SC.skipThen ?_
     refine SC.r tk [(2, vi .u64 0)] [] [] [] (by kernel_rfl) ?_
     obtain rfl := some_inv' hp
     exact SC.re (js := []) tk (by kernel_rfl)

theorem ok_wirelessref08_Check (F : Nat) (a_1 : T_api_Address) (r : Int) (hp : wirelessref08_Check F a_1 = some r) : Spec Tryd.prog 49 [.g (C_api_Address a_1)] [] (vi .i64 r) [] := by
 refine Spec.enter Tryd.func49 rfl Tryd.ntmps49 rfl rfl fun fx => ?_
 refine SC.seq ?_
 refine SC.reg ?_
 refine SL.eff (e_box (E := 24) (C_api_Address a_1) (by kernel_rfl)) rfl (by kernel_rfl) ?_
 refine SL.sim tk 1 [(1, vp 0 0)] [] [] [] (by kernel_rfl) ?_
 refine SL.nilThen ?_
 refine SC.seq ?_
 refine SC.r tk [(1, vp 0 0), (12, vb ((decide (a_1.Kind < 1)) || (decide (a_1.Kind > 4))))] [] [] [] (by kernel_rfl) ?_
 refine SC.if' rfl hp (fun hp => ?_) (fun hp => ?_)
 · refine SC.r tk [(2, vi .i64 12)] [] [] [] (by kernel_rfl) ?_
   obtain rfl := some_inv' hp
   exact SC.re (js := []) tk (by kernel_rfl)
 · refine SC.skipThen ?_
   refine SC.seq ?_
   refine SC.r tk [(1, vp 0 0), (15, vb (decide (a_1.Bits ≥ 281474976710656)))] [] [] [] (by kernel_rfl) ?_
   refine SC.if' rfl hp (fun hp => ?_) (fun hp => ?_)
   · refine SC.r tk [(2, vi .i64 5)] [] [] [] (by kernel_rfl) ?_
     obtain rfl := some_inv' hp
     exact SC.re (js := []) tk (by kernel_rfl)
   · refine SC.skipThen ?_
     refine SC.seq ?_
     refine SC.r tk [(1, vp 0 0), (18, vb (a_1.Kind == 1))] [] [] [] (by kernel_rfl) ?_
     refine SC.if' rfl hp (fun hp => ?_) (fun hp => ?_)
     · refine SC.r tk [(2, vi .i64 0)] [] [] [] (by kernel_rfl) ?_
       obtain rfl := some_inv' hp
       exact SC.re (js := []) tk (by kernel_rfl)
     · refine SC.skipThen ?_
       refine SC.r tk [(1, vp 0 0), (3, vi .u64 (remp a_1.Bits 70368744177664))] [] [.bin .rem .u64 a_1.Bits 70368744177664 (remp a_1.Bits 70368744177664) (by kernel_rfl)] [a_1.Bits, 70368744177664] (by kernel_rfl) ?_
       refine SC.r tk [(1, vp 0 0), (3, vi .u64 (remp a_1.Bits 70368744177664)), (4, vi .u64 70368744177663)] [] [] [] (by kernel_rfl) ?_
       refine SC.cut (fun a w => ∃ (x_2 : Int) (x_3 : Int), wirelessref08_Check_j1 F a_1 x_2 x_3 = some r ∧ A 43 0 fx [(1, vp 0 0), (3, vi .u64 x_2), (4, vi .u64 x_3)] [.blk 24 (C_api_Address a_1)] a w) ?_ ?_
       · refine SC.r tk [(1, vp 0 0), (3, vi .u64 (remp a_1.Bits 70368744177664)), (4, vi .u64 70368744177663), (24, vb (a_1.Kind == 3))] [] [] [] (by kernel_rfl) ?_
         refine SC.if' rfl hp (fun hp => ?_) (fun hp => ?_)
         · refine SC.r tk [(1, vp 0 0), (3, vi .u64 (quop .u64 (remp a_1.Bits 70368744177664) 16777216))] [] [.bin .quo .u64 (remp a_1.Bits 70368744177664) 16777216 (quop .u64 (remp a_1.Bits 70368744177664) 16777216) (by kernel_rfl)] [(remp a_1.Bits 70368744177664), 16777216] (by kernel_rfl) ?_
           refine SC.reg ?_
           refine SL.sim tk 1 [(1, vp 0 0), (3, vi .u64 (quop .u64 (remp a_1.Bits 70368744177664) 16777216)), (4, vi .u64 4194303)] [] [] [] (by kernel_rfl) ?_
           refine SL.nilJ fun a w h => ?_
           exact ⟨(quop .u64 (remp a_1.Bits 70368744177664) 16777216), 4194303, hp, h.at (js := [.g 0]) (by kernel_rfl)⟩
         · refine SC.skipJ fun a w h => ?_
           exact ⟨(remp a_1.Bits 70368744177664), 70368744177663, hp, h.at (js := [.g 0]) (by kernel_rfl)⟩
       · rintro a w ⟨x_2, x_3, hp, h⟩
         refine h.go ?_
         refine SC.seq ?_
         refine SC.cut (fun a w => ∃ (z_4 : Bool), wirelessref08_Check_j2 F z_4 = some r ∧ A 43 0 fx [(42, vb z_4)] [] a w) ?_ ?_
         · refine SC.draw MO [true] (by kernel_rfl) fun kap_5 D_6 => ?_
           refine SD.takes tk D_6 [] kn0 [0, 1, 2, 3, 4] [.bin .quo .u64 a_1.Bits 70368744177664 (quop .u64 a_1.Bits 70368744177664) (by kernel_rfl)] [a_1.Bits, 70368744177664] [I, I, I, I, I, O, O, O, O, O, O, O, O, O, O, O] [(3, vi .u64 x_2), (4, vi .u64 x_3), (29, vi .u64 (quop .u64 a_1.Bits 70368744177664)), (31, vi .i64 a_1.Kind)] rfl (by kernel_rfl) (by kernel_rfl) (by kernel_rfl) ?_
           obtain ⟨x_7, e_x_7, hp⟩ := bind_inv hp
           refine SD.all1 (i := 5) (by kernel_rfl) ?_
           refine SW.eff D_6 (i := 5) (bs' := [I, I, I, I, I, I, O, O, O, O, O, O, O, O, O, O]) rfl (.inl rfl) rfl (e_c Tryd.call72 (ok_wirelessref08_prefix F a_1.Kind _ e_x_7) [] [vi .i64 a_1.Kind] (vi .u64 x_7) (by kernel_rfl) (.inl rfl)) (by kernel_rfl) rfl (by kernel_rfl) ?_
           refine SD.takes tk D_6 [] kn0 [6, 7, 8, 9, 10, 11, 12, 13, 14, 15] [] [] [I, I, I, I, I, I, I, I, I, I, I, I, I, I, I, I] [(42, vb ((((quop .u64 a_1.Bits 70368744177664) != x_7) || (x_2 == 0)) || (x_2 == x_3)))] rfl (by kernel_rfl) (by kernel_rfl) (by kernel_rfl) ?_
           refine SD.done (by kernel_rfl) fun a w h => ?_
           exact ⟨((((quop .u64 a_1.Bits 70368744177664) != x_7) || (x_2 == 0)) || (x_2 == x_3)), hp, h.at (js := []) (by kernel_rfl)⟩
         · rintro a w ⟨z_4, hp, h⟩
           refine h.go ?_
           refine SC.if' rfl hp (fun hp => ?_) (fun hp => ?_)
           · refine SC.r tk [(2, vi .i64 1)] [] [] [] (by kernel_rfl) ?_
             obtain rfl := some_inv' hp
             exact SC.re (js := []) tk (by kernel_rfl)
           · refine SC.skipThen ?_
             refine SC.r tk [(2, vi .i64 0)] [] [] [] (by kernel_rfl) ?_
             obtain rfl := some_inv' hp
             exact SC.re (js := []) tk (by kernel_rfl)

theorem ok_wirelessref40_Check (F : Nat) (b_1 : T_api_Bond) (r : Int) (hp : wirelessref40_Check F b_1 = some r) : Spec Tryd.prog 15 [.g (C_api_Bond b_1 (.s 0))] [.rd 2 R_T_api_Subscription b_1.Subs] (vi .i64 r) [.gone] := by
 refine Spec.enter Tryd.func15 rfl Tryd.ntmps15 rfl rfl fun fx => ?_
 refine SC.seq ?_
 refine SC.reg ?_
 refine SL.eff (e_box (E := 30) (C_api_Bond b_1 (.s 0)) (by kernel_rfl)) rfl (by kernel_rfl) ?_
 refine SL.sim tk 1 [(1, vp 1 0)] [] [] [] (by kernel_rfl) ?_
 refine SL.nilThen ?_
 refine SC.seq ?_
 refine SC.reg ?_
 refine SL.sim tk 3 [(1, vp 1 0), (8, .g (C_api_Address b_1.Peer.Address))] [] [] [] (by kernel_rfl) ?_
 obtain ⟨x_2, e_x_2, hp⟩ := bind_inv hp
 refine SL.eff (e_c Tryd.call49 (ok_wirelessref08_Check F b_1.Peer.Address _ e_x_2) [] [.g (C_api_Address b_1.Peer.Address)] (vi .i64 x_2) (by kernel_rfl) (.inl rfl)) rfl (by kernel_rfl) ?_
 refine SL.sim tk 1 [(1, vp 1 0), (3, vi .i64 x_2)] [] [] [] (by kernel_rfl) ?_
 refine SL.nilThen ?_
 refine SC.seq ?_
 refine SC.r tk [(1, vp 1 0), (3, vi .i64 x_2), (11, vb (x_2 != 0))] [] [] [] (by kernel_rfl) ?_
 refine SC.if' rfl hp (fun hp => ?_) (fun hp => ?_)
 · refine SC.r tk [(2, vi .i64 x_2)] [] [] [] (by kernel_rfl) ?_
   obtain rfl := some_inv' hp
   exact SC.re (js := [.g 0]) tk (by kernel_rfl)
 · refine SC.skipThen ?_
   refine SC.seq ?_
   refine SC.r tk [(1, vp 1 0), (24, vb ((b_1.Peer.Address.Kind != 1) && (b_1.Peer.Address.Kind != 2)))] [] [] [] (by kernel_rfl) ?_
   refine SC.if' rfl hp (fun hp => ?_) (fun hp => ?_)
   · refine SC.r tk [(2, vi .i64 12)] [] [] [] (by kernel_rfl) ?_
     obtain rfl := some_inv' hp
     exact SC.re (js := [.g 0]) tk (by kernel_rfl)
   · refine SC.skipThen ?_
     refine SC.seq ?_
     refine SC.r tk [(1, vp 1 0), (32, vb ((decide (b_1.Used < 0)) || (decide (b_1.Used > 4294967295))))] [] [] [] (by kernel_rfl) ?_
     refine SC.if' rfl hp (fun hp => ?_) (fun hp => ?_)
     · refine SC.r tk [(2, vi .i64 5)] [] [] [] (by kernel_rfl) ?_
       obtain rfl := some_inv' hp
       exact SC.re (js := [.g 0]) tk (by kernel_rfl)
     · refine SC.skipThen ?_
       refine SC.seq ?_
       refine SC.r tk [(1, vp 1 0), (36, vb (decide ((len b_1.Subs) > 16)))] [] [] [] (by kernel_rfl) ?_
       refine SC.if' rfl hp (fun hp => ?_) (fun hp => ?_)
       · refine SC.r tk [(2, vi .i64 4)] [] [] [] (by kernel_rfl) ?_
         obtain rfl := some_inv' hp
         exact SC.re (js := [.g 0]) tk (by kernel_rfl)
       · refine SC.skipThen ?_
         refine SC.cut (fun a w => wirelessref40_Check_j1 F = some r ∧ A 76 1 fx [] [.gone] a w) ?_ ?_
         · refine SC.r tk [(1, vp 1 0), (4, vi .i64 0)] [] [] [] (by kernel_rfl) ?_
           refine SC.block ?_
           obtain ⟨o1, hi1, ho1⟩ := bind_inv hp
           clear hp
           refine SC.loop (fun n a w => ∃ (x_3 : Int), iter (fun s => wirelessref40_Check_l1 F b_1 s) n (x_3) = some o1 ∧ A 76 1 fx [(1, vp 1 0), (4, vi .i64 x_3)] [.rd 2 R_T_api_Subscription b_1.Subs, .blk 30 (C_api_Bond b_1 (.s 0))] a w) F (fun a w h => ⟨0, hi1, h.at (js := [.g 0, .g 1]) (by kernel_rfl)⟩) ?_
           rintro n1 a w ⟨x_3, hi1, h⟩
           obtain ⟨n1, q1, rfl, hp, hs1⟩ := iter_inv hi1
           replace hp : wirelessref40_Check_l1 F b_1 x_3 = some q1 := hp
           clear hi1
           refine h.go ?_
           refine SC.seq ?_
           refine SC.r tk [(1, vp 1 0), (4, vi .i64 x_3), (41, vb (decide (x_3 < (len b_1.Subs))))] [] [] [] (by kernel_rfl) ?_
           refine SC.if' rfl hp (fun hp => ?_) (fun hp => ?_)
           · refine SC.skipThen ?_
             refine SC.seq ?_
             refine SC.block ?_
             refine SC.seq ?_
             refine SC.reg ?_
             obtain ⟨x_4, e_x_4, hp⟩ := bind_inv hp
             refine SL.pre (pre_ix (i := 0) (iv := x_3) (sz := 2) (R := R_T_api_Subscription) (l := b_1.Subs) (by kernel_rfl) rfl e_x_4) ?_
             refine SL.sim tk 5 [(1, vp 1 0), (4, vi .i64 x_3), (48, .g (C_api_Subscription x_4))] [] [.el 2] [x_3] (by kernel_rfl) ?_
             refine SL.eff (e_alloc (E := 89) tk [ci .u16 0, ci .i64 0] (by kernel_rfl)) rfl (by kernel_rfl) ?_
             refine SL.sim tk 1 [(1, vp 1 0), (4, vi .i64 x_3), (5, vp 3 0)] [(3, 89, (C_api_Subscription x_4))] [] [] (by kernel_rfl) ?_
             refine SL.nilThen ?_
             refine SC.seq ?_
             refine SC.r tk [(1, vp 1 0), (4, vi .i64 x_3), (5, vp 3 0), (61, vb (((x_4.Handle == 0) || (decide (x_4.Bits < 0))) || (decide (x_4.Bits > 3))))] [] [] [] (by kernel_rfl) ?_
             refine SC.if' rfl hp (fun hp => ?_) (fun hp => ?_)
             · refine SC.r tk [(2, vi .i64 5)] [] [] [] (by kernel_rfl) ?_
               have ho := done_inv hp hs1
               replace hp := ho1
               try rw [ho] at hp
               obtain rfl := some_inv' hp
               exact SC.re (js := [.g 0]) tk (by kernel_rfl)
             · refine SC.skipThen ?_
               refine SC.cut (fun a w => ∃ (z_5 : Bool), wirelessref40_Check_j2 F x_3 z_5 = some q1 ∧ A 76 1 fx [(1, vp 1 0), (4, vi .i64 x_3), (75, vb z_5)] [.rd 2 R_T_api_Subscription b_1.Subs, .blk 30 (C_api_Bond b_1 (.s 0))] a w) ?_ ?_
               · refine SC.draw MO [true, true, true, true] (by kernel_rfl) fun kap_6 D_7 => ?_
                 refine SD.takes tk D_7 [] kn0 [0, 1, 2] [] [] [I, I, I, O, O, O, O, O, O, O, O, O, O, O] [(1, vp 1 0), (4, vi .i64 x_3), (5, vp 3 0), (64, vb (decide (x_3 > 0)))] rfl (by kernel_rfl) (by kernel_rfl) (by kernel_rfl) ?_
                 rcases Bool.eq_false_or_eq_true (decide (x_3 > 0)) with hg_8 | hg_8
                 · replace hp := if_t hp hg_8
                   refine SD.takes tk D_7 [(64, true)] (knS rfl hg_8 kn0) [3, 4, 5, 6, 7, 8] [] [] [I, I, I, I, I, I, I, I, I, O, O, O, O, O] [(1, vp 1 0), (4, vi .i64 x_3), (64, vb (decide (x_3 > 0))), (65, vp 3 0), (66, vi .u16 x_4.Handle), (67, vp 1 8), (68, vs 0), (69, vi .i64 x_3), (70, vi .i64 (w64 (x_3 - 1)))] rfl (by kernel_rfl) (by kernel_rfl) (by kernel_rfl) ?_
                   obtain ⟨x_9, e_x_9, hp⟩ := bind_inv hp
                   refine SD.pre (pre_ix (i := 0) (iv := w64 (x_3 - 1)) (sz := 2) (R := R_T_api_Subscription) (l := b_1.Subs) (by kernel_rfl) rfl e_x_9) ?_
                   refine SD.all1 (i := 9) (by kernel_rfl) ?_
                   refine SW.eff D_7 (i := 9) (v := vp 4 0) (bs' := [I, I, I, I, I, I, I, I, I, I, O, O, O, O]) rfl (.inr ⟨_, _, _, _, rfl, rfl, rfl, hg_8⟩) rfl (e_valE tk (.el 4) [w64 (x_3 - 1)] (by kernel_rfl)) (by kernel_rfl) rfl (by kernel_rfl) ?_
                   refine SD.norm (itsN := [.rd 2 R_T_api_Subscription b_1.Subs, .blk 30 (C_api_Bond b_1 (.s 0)), .elt (some (0, x_3)) false (C_api_Subscription x_4), .blk 89 (C_api_Subscription x_4), .elt (some (0, w64 (x_3 - 1))) false (C_api_Subscription x_9)]) (by kernel_rfl) ?_
                   refine SD.all1 (i := 10) (by kernel_rfl) ?_
                   refine SW.eff D_7 (i := 10) (v := vp 4 0) (bs' := [I, I, I, I, I, I, I, I, I, I, I, O, O, O]) rfl (.inr ⟨_, _, _, _, rfl, rfl, rfl, hg_8⟩) rfl (e_val tk (by kernel_rfl)) (by kernel_rfl) rfl (by kernel_rfl) ?_
                   refine SD.all1 (i := 11) (by kernel_rfl) ?_
                   refine SW.eff D_7 (i := 11) (v := vi .u16 x_9.Handle) (bs' := [I, I, I, I, I, I, I, I, I, I, I, I, O, O]) rfl (.inr ⟨_, _, _, _, rfl, rfl, rfl, hg_8⟩) rfl (e_val tk (by kernel_rfl)) (by kernel_rfl) rfl (by kernel_rfl) ?_
                   refine SD.norm (itsN := [.rd 2 R_T_api_Subscription b_1.Subs, .blk 30 (C_api_Bond b_1 (.s 0)), .elt (some (0, x_3)) false (C_api_Subscription x_4), .blk 89 (C_api_Subscription x_4), .elt (some (0, w64 (x_3 - 1))) false (C_api_Subscription x_9)]) (by kernel_rfl) ?_
                   refine SD.takes tk D_7 [(64, true)] (knS rfl hg_8 kn0) [12, 13] [] [] [I, I, I, I, I, I, I, I, I, I, I, I, I, I] [(1, vp 1 0), (4, vi .i64 x_3), (65, vp 3 0), (66, vi .u16 x_4.Handle), (67, vp 1 8), (68, vs 0), (69, vi .i64 x_3), (70, vi .i64 (w64 (x_3 - 1))), (71, vp 4 0), (72, vp 4 0), (73, vi .u16 x_9.Handle), (74, vb (decide (x_4.Handle ≤ x_9.Handle))), (75, vb (decide (x_4.Handle ≤ x_9.Handle)))] rfl (by kernel_rfl) (by kernel_rfl) (by kernel_rfl) ?_
                   refine SD.done (by kernel_rfl) fun a w h => ?_
                   exact ⟨decide (x_4.Handle ≤ x_9.Handle), hp, h.at (js := [.g 0, .g 1]) (by kernel_rfl)⟩
                 · replace hp := if_f hp hg_8
                   refine SD.takes tk D_7 [(64, false)] (knS rfl hg_8 kn0) [3, 4, 5, 6, 7, 8, 9, 10, 11, 12, 13] [] [] [I, I, I, I, I, I, I, I, I, I, I, I, I, I] [(1, vp 1 0), (4, vi .i64 x_3), (65, .u []), (66, .u []), (67, .u []), (68, .u []), (69, .u []), (70, .u []), (71, .u []), (72, .u []), (73, .u []), (74, .u []), (75, vb false)] rfl (by kernel_rfl) (by kernel_rfl) (by kernel_rfl) ?_
                   refine SD.done (by kernel_rfl) fun a w h => ?_
                   exact ⟨false, hp, h.at (js := [.g 0, .g 1]) (by kernel_rfl)⟩
               · rintro a w ⟨z_5, hp, h⟩
                 refine h.go ?_
                 refine SC.if' rfl hp (fun hp => ?_) (fun hp => ?_)
                 · refine SC.r tk [(2, vi .i64 13)] [] [] [] (by kernel_rfl) ?_
                   have ho := done_inv hp hs1
                   replace hp := ho1
                   try rw [ho] at hp
                   obtain rfl := some_inv' hp
                   exact SC.re (js := [.g 0]) tk (by kernel_rfl)
                 · refine SC.skipThen ?_
                   refine SC.reg ?_
                   refine SL.sim tk 3 [(1, vp 1 0), (4, vi .i64 (w64 (x_3 + 1)))] [] [] [] (by kernel_rfl) ?_
                   refine SL.nilJ fun a w h => ?_
                   exact ⟨n1, Nat.lt_succ_self _, w64 (x_3 + 1), next_inv hp hs1, h.at (js := [.g 0, .g 1]) (by kernel_rfl)⟩
           · refine SC.exitJ rfl fun a w h => ?_
             have ho := done_inv hp hs1
             replace hp := ho1
             try rw [ho] at hp
             exact ⟨hp, h.at (js := [.g 0]) (by kernel_rfl)⟩
         · rintro a w ⟨hp, h⟩
           refine h.go ?_
           refine SC.r tk [(2, vi .i64 0)] [] [] [] (by kernel_rfl) ?_
           obtain rfl := some_inv' hp
           exact SC.re (js := [.g 0]) tk (by kernel_rfl)

theorem ok_wirelessref40_Valid (F : Nat) (l_1 : (List T_api_Bond)) (r : Bool) (hp : wirelessref40_Valid F l_1 = some r) : Spec Tryd.prog 17 [vs 0] [.rd 10 R_T_api_Bond l_1] (vb r) [.gone] := by
 refine Spec.enter Tryd.func17 rfl Tryd.ntmps17 rfl rfl fun fx => ?_
 refine SC.r tk [(0, vs 0)] [] [] [] (by kernel_rfl) ?_
 refine SC.cut (fun a w => wirelessref40_Valid_j1 F l_1 = some r ∧ A 38 1 fx [(0, vs 0)] [.rd 10 R_T_api_Bond l_1] a w) ?_ ?_
 · refine SC.r tk [(0, vs 0), (3, vi .i64 0)] [] [] [] (by kernel_rfl) ?_
   refine SC.block ?_
   obtain ⟨o1, hi1, ho1⟩ := bind_inv hp
   clear hp
   refine SC.loop (fun n a w => ∃ (x_2 : Int), iter (fun s => wirelessref40_Valid_l1 F l_1 s) n (x_2) = some o1 ∧ A 38 1 fx [(0, vs 0), (3, vi .i64 x_2)] [.rd 10 R_T_api_Bond l_1] a w) F (fun a w h => ⟨0, hi1, h.at (js := [.g 0]) (by kernel_rfl)⟩) ?_
   rintro n1 a w ⟨x_2, hi1, h⟩
   obtain ⟨n1, q1, rfl, hp, hs1⟩ := iter_inv hi1
   replace hp : wirelessref40_Valid_l1 F l_1 x_2 = some q1 := hp
   clear hi1
   refine h.go ?_
   refine SC.seq ?_
   refine SC.r tk [(0, vs 0), (3, vi .i64 x_2), (8, vb (decide (x_2 < (len l_1))))] [] [] [] (by kernel_rfl) ?_
   refine SC.if' rfl hp (fun hp => ?_) (fun hp => ?_)
   · refine SC.skipThen ?_
     refine SC.cut (fun a w => wirelessref40_Valid_j2 F x_2 = some q1 ∧ A 38 1 fx [(0, vs 0), (3, vi .i64 x_2)] [.rd 10 R_T_api_Bond l_1] a w) ?_ ?_
     · refine SC.block ?_
       refine SC.seq ?_
       refine SC.seq ?_
       refine SC.reg ?_
       obtain ⟨x_3, e_x_3, hp⟩ := bind_inv hp
       refine SL.pre (pre_ix (i := 0) (iv := x_2) (sz := 10) (R := R_T_api_Bond) (l := l_1) (by kernel_rfl) rfl e_x_3) ?_
       refine SL.sim tk 4 [(0, vs 0), (3, vi .i64 x_2), (14, .g (C_api_Bond x_3 (.s 2)))] [] [.el 1] [x_2] (by kernel_rfl) ?_
       obtain ⟨x_4, e_x_4, hp⟩ := bind_inv hp
       refine SL.eff (e_c Tryd.call15 (ok_wirelessref40_Check F x_3 _ e_x_4) [.g 2] [.g (C_api_Bond x_3 (.s 2))] (vi .i64 x_4) (by kernel_rfl) (.inl rfl)) rfl (by kernel_rfl) ?_
       refine SL.sim tk 1 [(0, vs 0), (3, vi .i64 x_2), (16, vb (x_4 != 0))] [] [] [] (by kernel_rfl) ?_
       refine SL.nilThen ?_
       refine SC.if' rfl hp (fun hp => ?_) (fun hp => ?_)
       · refine SC.r tk [(2, vb false)] [] [] [] (by kernel_rfl) ?_
         have ho := done_inv hp hs1
         replace hp := ho1
         try rw [ho] at hp
         obtain rfl := some_inv' hp
         exact SC.re (js := [.g 0]) tk (by kernel_rfl)
       · refine SC.skipThen ?_
         refine SC.r tk [(0, vs 0), (3, vi .i64 x_2), (4, vi .i64 0)] [] [] [] (by kernel_rfl) ?_
         refine SC.block ?_
         obtain ⟨o2, hi2, ho2⟩ := bind_inv hp
         clear hp
         refine SC.loop (fun n a w => ∃ (x_5 : Int), iter (fun s => wirelessref40_Valid_l2 F l_1 x_2 s) n (x_5) = some o2 ∧ A 38 1 fx [(0, vs 0), (3, vi .i64 x_2), (4, vi .i64 x_5)] [.rd 10 R_T_api_Bond l_1] a w) F (fun a w h => ⟨0, hi2, h.at (js := [.g 0]) (by kernel_rfl)⟩) ?_
         rintro n2 a w ⟨x_5, hi2, h⟩
         obtain ⟨n2, q2, rfl, hp, hs2⟩ := iter_inv hi2
         replace hp : wirelessref40_Valid_l2 F l_1 x_2 x_5 = some q2 := hp
         clear hi2
         refine h.go ?_
         refine SC.seq ?_
         refine SC.r tk [(0, vs 0), (3, vi .i64 x_2), (4, vi .i64 x_5), (19, vb (decide (x_5 < x_2)))] [] [] [] (by kernel_rfl) ?_
         refine SC.if' rfl hp (fun hp => ?_) (fun hp => ?_)
         · refine SC.skipThen ?_
           refine SC.seq ?_
           refine SC.block ?_
           refine SC.cut (fun a w => ∃ (z_6 : Bool), wirelessref40_Valid_j3 F x_5 z_6 = some q2 ∧ A 38 1 fx [(0, vs 0), (3, vi .i64 x_2), (4, vi .i64 x_5), (34, vb z_6)] [.rd 10 R_T_api_Bond l_1] a w) ?_ ?_
           · obtain ⟨x_7, e_x_7, hp⟩ := bind_inv hp
             obtain ⟨x_8, e_x_8, hp⟩ := bind_inv hp
             refine SC.pre (pre_ix (i := 0) (iv := x_5) (sz := 10) (R := R_T_api_Bond) (l := l_1) (by kernel_rfl) rfl e_x_7) ?_
             refine SC.pre (pre_ix (i := 0) (iv := x_2) (sz := 10) (R := R_T_api_Bond) (l := l_1) (by kernel_rfl) rfl e_x_8) ?_
             refine SC.draw MO [true, true, true, true, true] (by kernel_rfl) fun kap_9 D_10 => ?_
             refine SD.takes tk D_10 [] kn0 [0, 1, 2, 3, 4, 5, 6, 7, 8, 9, 10, 11] [.el 1, .el 3] [x_5, x_2] [I, I, I, I, I, I, I, I, I, I, I, I, O] [(0, vs 0), (3, vi .i64 x_2), (4, vi .i64 x_5), (27, .g (C_api_Address x_7.Peer.Address)), (33, .g (C_api_Address x_8.Peer.Address))] rfl (by kernel_rfl) (by kernel_rfl) (by kernel_rfl) ?_
             refine SD.all1 (i := 12) (by kernel_rfl) ?_
             refine SW.eff D_10 (i := 12) (bs' := [I, I, I, I, I, I, I, I, I, I, I, I, I]) rfl (.inl rfl) rfl (e_eqs tk (cs := (C_api_Address x_7.Peer.Address)) (ds := (C_api_Address x_8.Peer.Address)) [(x_7.Peer.Address.Kind == x_8.Peer.Address.Kind), (x_7.Peer.Address.Bits == x_8.Peer.Address.Bits)] ((x_7.Peer.Address.Kind == x_8.Peer.Address.Kind) && (x_7.Peer.Address.Bits == x_8.Peer.Address.Bits)) rfl rfl (by kernel_rfl) (by kernel_rfl) (by kernel_rfl) (.inl ⟨rfl, (by kernel_rfl)⟩)) (by kernel_rfl) rfl (by kernel_rfl) ?_
             refine SD.done (by kernel_rfl) fun a w h => ?_
             exact ⟨((x_7.Peer.Address.Kind == x_8.Peer.Address.Kind) && (x_7.Peer.Address.Bits == x_8.Peer.Address.Bits)), hp, h.at (js := [.g 0]) (by kernel_rfl)⟩
           · rintro a w ⟨z_6, hp, h⟩
             refine h.go ?_
             refine SC.if' rfl hp (fun hp => ?_) (fun hp => ?_)
             · refine SC.r tk [(2, vb false)] [] [] [] (by kernel_rfl) ?_
               have ho := done_inv hp hs2
               replace hp := ho2
               try rw [ho] at hp
               have ho := done_inv hp hs1
               replace hp := ho1
               try rw [ho] at hp
               obtain rfl := some_inv' hp
               exact SC.re (js := [.g 0]) tk (by kernel_rfl)
             · refine SC.skipThen ?_
               refine SC.reg ?_
               refine SL.sim tk 3 [(0, vs 0), (3, vi .i64 x_2), (4, vi .i64 (w64 (x_5 + 1)))] [] [] [] (by kernel_rfl) ?_
               refine SL.nilJ fun a w h => ?_
               exact ⟨n2, Nat.lt_succ_self _, w64 (x_5 + 1), next_inv hp hs2, h.at (js := [.g 0]) (by kernel_rfl)⟩
         · refine SC.exitJ rfl fun a w h => ?_
           have ho := done_inv hp hs2
           replace hp := ho2
           try rw [ho] at hp
           exact ⟨hp, h.at (js := [.g 0]) (by kernel_rfl)⟩
     · rintro a w ⟨hp, h⟩
       refine h.go ?_
       refine SC.reg ?_
       refine SL.sim tk 3 [(0, vs 0), (3, vi .i64 (w64 (x_2 + 1)))] [] [] [] (by kernel_rfl) ?_
       refine SL.nilJ fun a w h => ?_
       exact ⟨n1, Nat.lt_succ_self _, w64 (x_2 + 1), next_inv hp hs1, h.at (js := [.g 0]) (by kernel_rfl)⟩
   · refine SC.exitJ rfl fun a w h => ?_
     have ho := done_inv hp hs1
     replace hp := ho1
     try rw [ho] at hp
     exact ⟨hp, h.at (js := [.g 0]) (by kernel_rfl)⟩
 · rintro a w ⟨hp, h⟩
   refine h.go ?_
   refine SC.r tk [(2, vb (decide ((len l_1) ≤ 16)))] [] [] [] (by kernel_rfl) ?_
   obtain rfl := some_inv' hp
   exact SC.re (js := [.g 0]) tk (by kernel_rfl)

theorem ok_wirelessref40_Copy (F : Nat) (l_1 : (List T_api_Bond)) (r : (List T_api_Bond)) (hp : wirelessref40_Copy F l_1 = some r) : Spec Tryd.prog 9 [vs 0] [.rd 10 R_T_api_Bond l_1] (vs 1) [.gone, .rd 10 R_T_api_Bond r] := by
 refine Spec.enter Tryd.func9 rfl Tryd.ntmps9 rfl rfl fun fx => ?_
 refine SC.r tk [(0, vs 0)] [] [] [] (by kernel_rfl) ?_
 refine SC.seq ?_
 refine SC.reg ?_
 refine SL.eff (e_lit (sz := 10) (E := 30) (R := R_T_api_Bond) (by_ := 96) tk [] ([] : (List T_api_Bond)) (by kernel_rfl) trivial rfl (by kernel_rfl) (by kernel_rfl)) rfl (by kernel_rfl) ?_
 refine SL.sim tk 1 [(0, vs 0), (3, vs 1)] [] [] [] (by kernel_rfl) ?_
 refine SL.nilThen ?_
 refine SC.cut (fun a w => ∃ (l_2 : (List T_api_Bond)), wirelessref40_Copy_j1 F l_2 = some r ∧ A 27 1 fx [(3, vs 1)] [.gone, .own 10 30 R_T_api_Bond l_2] a w) ?_ ?_
 · refine SC.r tk [(0, vs 0), (3, vs 1), (4, vi .i64 0)] [] [] [] (by kernel_rfl) ?_
   refine SC.block ?_
   obtain ⟨o1, hi1, ho1⟩ := bind_inv hp
   clear hp
   refine SC.loop (fun n a w => ∃ (l_3 : (List T_api_Bond)) (x_4 : Int), iter (fun s => wirelessref40_Copy_l1 F l_1 s.1 s.2) n (l_3, x_4) = some o1 ∧ A 27 1 fx [(0, vs 0), (3, vs 1), (4, vi .i64 x_4)] [.rd 10 R_T_api_Bond l_1, .own 10 30 R_T_api_Bond l_3] a w) F (fun a w h => ⟨([] : (List T_api_Bond)), 0, hi1, h.at (js := [.g 0, .g 1]) (by kernel_rfl)⟩) ?_
   rintro n1 a w ⟨l_3, x_4, hi1, h⟩
   obtain ⟨n1, q1, rfl, hp, hs1⟩ := iter_inv hi1
   replace hp : wirelessref40_Copy_l1 F l_1 l_3 x_4 = some q1 := hp
   clear hi1
   refine h.go ?_
   refine SC.seq ?_
   refine SC.r tk [(0, vs 0), (3, vs 1), (4, vi .i64 x_4), (10, vb (decide (x_4 < (len l_1))))] [] [] [] (by kernel_rfl) ?_
   refine SC.if' rfl hp (fun hp => ?_) (fun hp => ?_)
   · refine SC.skipThen ?_
     refine SC.seq ?_
     refine SC.block ?_
     refine SC.seq ?_
     refine SC.reg ?_
     obtain ⟨x_5, e_x_5, hp⟩ := bind_inv hp
     refine SL.pre (pre_ix (i := 0) (iv := x_4) (sz := 10) (R := R_T_api_Bond) (l := l_1) (by kernel_rfl) rfl e_x_5) ?_
     refine SL.sim tk 4 [(0, vs 0), (3, vs 1), (4, vi .i64 x_4), (16, .g (C_api_Bond x_5 (.s 3)))] [] [.el 2] [x_4] (by kernel_rfl) ?_
     refine SL.eff (e_alloc (E := 30) tk (C_api_Bond (T_api_Bond.mk (T_api_Identity.mk (T_api_Address.mk 0 0) 0) 0 0 false 0 false [] 0) nl) (by kernel_rfl)) rfl (by kernel_rfl) ?_
     refine SL.sim tk 1 [(0, vs 0), (3, vs 1), (4, vi .i64 x_4), (5, vp 4 0)] [(4, 30, (C_api_Bond x_5 (.s 3)))] [] [] (by kernel_rfl) ?_
     refine SL.nilThen ?_
     refine SC.seq ?_
     refine SC.reg ?_
     refine SL.eff (e_lit (sz := 2) (E := 89) (R := R_T_api_Subscription) (by_ := 16) tk [] ([] : (List T_api_Subscription)) (by kernel_rfl) trivial rfl (by kernel_rfl) (by kernel_rfl)) rfl (by kernel_rfl) ?_
     refine SL.norm (itsN := [.rd 10 R_T_api_Bond l_1, .own 10 30 R_T_api_Bond l_3, .elt (some (0, x_4)) false (C_api_Bond x_5 (.s 3)), .rd 2 R_T_api_Subscription x_5.Subs, .blk 30 (C_api_Bond x_5 (.s 3)), .own 2 89 R_T_api_Subscription ([] : (List T_api_Subscription))]) (by kernel_rfl) ?_
     refine SL.sim tk 2 [(0, vs 0), (3, vs 1), (4, vi .i64 x_4), (5, vp 4 0), (17, vs 5), (19, vs 3)] [] [] [] (by kernel_rfl) ?_
     obtain ⟨l_6, e_l_6, hp⟩ := bind_inv hp
     refine SL.eff (e_app (i := 5) (l := ([] : (List T_api_Subscription))) (sz := 2) (E := 89) (R := R_T_api_Subscription) (by_ := 16) (m := x_5.Subs) tk rfl (by kernel_rfl) rfl (.r (by kernel_rfl)) e_l_6 (by kernel_rfl)) rfl (by kernel_rfl) ?_
     refine SL.sim tk 2 [(0, vs 0), (3, vs 1), (4, vi .i64 x_4), (5, vp 4 0)] [(4, 30, (C_api_Bond ({ x_5 with Subs := l_6 }) (.s 6)))] [] [] (by kernel_rfl) ?_
     refine SL.nilThen ?_
     refine SC.reg ?_
     refine SL.sim tk 2 [(0, vs 0), (3, vs 1), (4, vi .i64 x_4), (22, vs 1), (23, .g (C_api_Bond ({ x_5 with Subs := l_6 }) (.s 6)))] [] [] [] (by kernel_rfl) ?_
     refine SL.pre (pre_frz (i := 6) (sz := 2) (E := 89) (R := R_T_api_Subscription) (l := l_6) (by kernel_rfl)) ?_
     refine SL.eff (e_lit (sz := 10) (E := 30) (R := R_T_api_Bond) (by_ := 96) tk [(C_api_Bond ({ x_5 with Subs := l_6 }) (.s 6))] [{ x_5 with Subs := l_6 }] (by kernel_rfl) ⟨(clo_T_api_Bond (x := { x_5 with Subs := l_6 }) (Clo.sl (by kernel_rfl))), trivial⟩ rfl (by kernel_rfl) (by kernel_rfl)) rfl (by kernel_rfl) ?_
     obtain ⟨l_7, e_l_7, hp⟩ := bind_inv hp
     refine SL.eff (e_app (i := 1) (l := l_3) (sz := 10) (E := 30) (R := R_T_api_Bond) (by_ := 96) (m := [{ x_5 with Subs := l_6 }]) tk rfl (by kernel_rfl) rfl (.o 30 (by kernel_rfl)) e_l_7 (by kernel_rfl)) rfl (by kernel_rfl) ?_
     refine SL.norm (itsN := [.rd 10 R_T_api_Bond l_1, .gone, .elt (some (0, x_4)) false (C_api_Bond x_5 (.s 3)), .rd 2 R_T_api_Subscription x_5.Subs, .blk 30 (C_api_Bond ({ x_5 with Subs := l_6 }) (.s 6)), .gone, .rd 2 R_T_api_Subscription l_6, .own 10 30 R_T_api_Bond [{ x_5 with Subs := l_6 }], .own 10 30 R_T_api_Bond l_7]) (by kernel_rfl) ?_
     refine SL.sim tk 1 [(0, vs 0), (3, vs 8), (4, vi .i64 x_4)] [] [] [] (by kernel_rfl) ?_
     refine SL.nilThen ?_
     refine SC.reg ?_
     refine SL.sim tk 3 [(0, vs 0), (3, vs 8), (4, vi .i64 (w64 (x_4 + 1)))] [] [] [] (by kernel_rfl) ?_
     refine SL.nilJ fun a w h => ?_
     exact ⟨n1, Nat.lt_succ_self _, l_7, w64 (x_4 + 1), next_inv hp hs1, h.at (js := [.g 0, .g 8]) (by kernel_rfl)⟩
   · refine SC.exitJ rfl fun a w h => ?_
     have ho := done_inv hp hs1
     replace hp := ho1
     try rw [ho] at hp
     exact ⟨l_3, hp, h.at (js := [.g 0, .g 1]) (by kernel_rfl)⟩
 · rintro a w ⟨l_2, hp, h⟩
   refine h.go ?_
   refine SC.r tk [(2, vs 1)] [] [] [] (by kernel_rfl) ?_
   obtain rfl := some_inv' hp
   exact SC.re (js := [.g 0, .z 1]) tk (by kernel_rfl)

theorem ok_wirelessref40_Same (F : Nat) (a_1 : (List T_api_Bond)) (b_2 : (List T_api_Bond)) (r : Bool) (hp : wirelessref40_Same F a_1 b_2 = some r) : Spec Tryd.prog 22 [vs 0, vs 1] [.rd 10 R_T_api_Bond a_1, .rd 10 R_T_api_Bond b_2] (vb r) [.gone, .gone] := by
 refine Spec.enter Tryd.func22 rfl Tryd.ntmps22 rfl rfl fun fx => ?_
 refine SC.r tk [(0, vs 0), (1, vs 1)] [] [] [] (by kernel_rfl) ?_
 refine SC.seq ?_
 refine SC.r tk [(0, vs 0), (1, vs 1), (10, vb ((len a_1) != (len b_2)))] [] [] [] (by kernel_rfl) ?_
 refine SC.if' rfl hp (fun hp => ?_) (fun hp => ?_)
 · refine SC.r tk [(4, vb false)] [] [] [] (by kernel_rfl) ?_
   obtain rfl := some_inv' hp
   exact SC.re (js := [.g 0, .g 1]) tk (by kernel_rfl)
 · refine SC.skipThen ?_
   refine SC.cut (fun a w => wirelessref40_Same_j1 F = some r ∧ A 27 2 fx [] [.gone, .gone] a w) ?_ ?_
   · refine SC.r tk [(0, vs 0), (1, vs 1), (5, vi .i64 0)] [] [] [] (by kernel_rfl) ?_
     refine SC.block ?_
     obtain ⟨o1, hi1, ho1⟩ := bind_inv hp
     clear hp
     refine SC.loop (fun n a w => ∃ (x_3 : Int), iter (fun s => wirelessref40_Same_l1 F a_1 b_2 s) n (x_3) = some o1 ∧ A 27 2 fx [(0, vs 0), (1, vs 1), (5, vi .i64 x_3)] [.rd 10 R_T_api_Bond a_1, .rd 10 R_T_api_Bond b_2] a w) F (fun a w h => ⟨0, hi1, h.at (js := [.g 0, .g 1]) (by kernel_rfl)⟩) ?_
     rintro n1 a w ⟨x_3, hi1, h⟩
     obtain ⟨n1, q1, rfl, hp, hs1⟩ := iter_inv hi1
     replace hp : wirelessref40_Same_l1 F a_1 b_2 x_3 = some q1 := hp
     clear hi1
     refine h.go ?_
     refine SC.seq ?_
     refine SC.r tk [(0, vs 0), (1, vs 1), (5, vi .i64 x_3), (14, vb (decide (x_3 < (len a_1))))] [] [] [] (by kernel_rfl) ?_
     refine SC.if' rfl hp (fun hp => ?_) (fun hp => ?_)
     · refine SC.skipThen ?_
       refine SC.seq ?_
       refine SC.block ?_
       refine SC.cut (fun a w => ∃ (z_4 : Bool), wirelessref40_Same_j2 F x_3 z_4 = some q1 ∧ A 27 2 fx [(0, vs 0), (1, vs 1), (5, vi .i64 x_3), (26, vb z_4)] [.rd 10 R_T_api_Bond a_1, .rd 10 R_T_api_Bond b_2] a w) ?_ ?_
       · obtain ⟨x_5, e_x_5, hp⟩ := bind_inv hp
         obtain ⟨x_6, e_x_6, hp⟩ := bind_inv hp
         refine SC.pre (pre_ix (i := 0) (iv := x_3) (sz := 10) (R := R_T_api_Bond) (l := a_1) (by kernel_rfl) rfl e_x_5) ?_
         refine SC.pre (pre_ix (i := 1) (iv := x_3) (sz := 10) (R := R_T_api_Bond) (l := b_2) (by kernel_rfl) rfl e_x_6) ?_
         refine SC.draw MO [I, I, I, I, I, I] (by kernel_rfl) fun kap_7 D_8 => ?_
         refine SD.takes tk D_8 [] kn0 [0, 1, 2, 3, 4, 5, 6, 7] [.el 2, .el 4] [x_3, x_3] [I, I, I, I, I, I, I, I, O, O] [(0, vs 0), (1, vs 1), (5, vi .i64 x_3), (20, .g (C_api_Bond x_5 (.s 3))), (24, .g (C_api_Bond x_6 (.s 5)))] rfl (by kernel_rfl) (by kernel_rfl) (by kernel_rfl) ?_
         obtain ⟨x_9, e_x_9, hp⟩ := bind_inv hp
         refine SD.all1 (i := 8) (by kernel_rfl) ?_
         refine SW.eff D_8 (i := 8) (bs' := [I, I, I, I, I, I, I, I, I, O]) rfl (.inl rfl) rfl (e_c Tryd.call16 (ok_wirelessref40_SameBond F x_5 x_6 _ e_x_9) [.g 3, .g 5] [.g (C_api_Bond x_5 (.s 3)), .g (C_api_Bond x_6 (.s 5))] (vb x_9) (by kernel_rfl) (.inl rfl)) (by kernel_rfl) rfl (by kernel_rfl) ?_
         refine SD.takes tk D_8 [] kn0 [9] [] [] [I, I, I, I, I, I, I, I, I, I] [(0, vs 0), (1, vs 1), (5, vi .i64 x_3), (26, vb (!x_9))] rfl (by kernel_rfl) (by kernel_rfl) (by kernel_rfl) ?_
         refine SD.done (by kernel_rfl) fun a w h => ?_
         exact ⟨(!x_9), hp, h.at (js := [.g 0, .g 1]) (by kernel_rfl)⟩
       · rintro a w ⟨z_4, hp, h⟩
         refine h.go ?_
         refine SC.if' rfl hp (fun hp => ?_) (fun hp => ?_)
         · refine SC.r tk [(4, vb false)] [] [] [] (by kernel_rfl) ?_
           have ho := done_inv hp hs1
           replace hp := ho1
           try rw [ho] at hp
           obtain rfl := some_inv' hp
           exact SC.re (js := [.g 0, .g 1]) tk (by kernel_rfl)
         · refine SC.skipThen ?_
           refine SC.reg ?_
           refine SL.sim tk 3 [(0, vs 0), (1, vs 1), (5, vi .i64 (w64 (x_3 + 1)))] [] [] [] (by kernel_rfl) ?_
           refine SL.nilJ fun a w h => ?_
           exact ⟨n1, Nat.lt_succ_self _, w64 (x_3 + 1), next_inv hp hs1, h.at (js := [.g 0, .g 1]) (by kernel_rfl)⟩
     · refine SC.exitJ rfl fun a w h => ?_
       have ho := done_inv hp hs1
       replace hp := ho1
       try rw [ho] at hp
       exact ⟨hp, h.at (js := [.g 0, .g 1]) (by kernel_rfl)⟩
   · rintro a w ⟨hp, h⟩
     refine h.go ?_
     refine SC.r tk [(4, vb true)] [] [] [] (by kernel_rfl) ?_
     obtain rfl := some_inv' hp
     exact SC.re (js := [.g 0, .g 1]) tk (by kernel_rfl)

theorem ok_bonds_Touch (F : Nat) (l_1 : (List T_api_Bond)) (i_2 : Int) (r : (List T_api_Bond)) (hp : bonds_Touch F l_1 i_2 = some r) : Spec Tryd.prog 23 [vs 0, vi .i64 i_2] [.rd 10 R_T_api_Bond l_1] (vs 1) [.gone, .rd 10 R_T_api_Bond r] := by
 refine Spec.enter Tryd.func23 rfl Tryd.ntmps23 rfl rfl fun fx => ?_
 refine SC.r tk [(0, vs 0), (1, vi .i64 i_2)] [] [] [] (by kernel_rfl) ?_
 refine SC.seq ?_
 refine SC.r tk [(0, vs 0), (1, vi .i64 i_2), (14, vb ((decide (i_2 < 0)) || (decide (i_2 ≥ (len l_1)))))] [] [] [] (by kernel_rfl) ?_
 refine SC.if' rfl hp (fun hp => ?_) (fun hp => ?_)
 · refine SC.seq ?_
   refine SC.reg ?_
   refine SL.sim tk 1 [(15, vs 0)] [] [] [] (by kernel_rfl) ?_
   obtain ⟨x_3, e_x_3, hp⟩ := bind_inv hp
   refine SL.eff (e_c Tryd.call50 (ok_bonds_clone F l_1 _ e_x_3) [.g 0] [vs 0] (vs 1) (by kernel_rfl) (.inl rfl)) rfl (by kernel_rfl) ?_
   refine SL.sim tk 1 [(4, vs 1)] [] [] [] (by kernel_rfl) ?_
   refine SL.nilThen ?_
   obtain rfl := some_inv' hp
   exact SC.re (js := [.g 0, .z 1]) tk (by kernel_rfl)
 · refine SC.skipThen ?_
   refine SC.seq ?_
   refine SC.reg ?_
   refine SL.sim tk 1 [(1, vi .i64 i_2), (18, vs 0)] [] [] [] (by kernel_rfl) ?_
   obtain ⟨x_4, e_x_4, hp⟩ := bind_inv hp
   refine SL.eff (e_c Tryd.call51 (ok_bonds_next F l_1 _ e_x_4) [.g 0] [vs 0] (.u [.inl (.s 1), .inl (ci .i64 x_4.2)]) (by kernel_rfl) (.inl rfl)) rfl (by kernel_rfl) ?_
   refine SL.sim tk 5 [(1, vi .i64 i_2), (5, vs 1), (6, vi .i64 x_4.2)] [] [] [] (by kernel_rfl) ?_
   refine SL.nilThen ?_
   refine SC.seq ?_
   refine SC.reg ?_
   obtain ⟨x_5, e_x_5, hp⟩ := bind_inv hp
   refine SL.pre (pre_ixo (i := 1) (iv := i_2) (sz := 10) (E := 30) (R := R_T_api_Bond) (l := x_4.1) (by kernel_rfl) rfl e_x_5) ?_
   refine SL.sim tk 5 [(5, vs 1), (24, vi .i64 x_4.2), (26, vp 2 9)] [] [.el 2] [i_2] (by kernel_rfl) ?_
   obtain ⟨l_6, e_l_6, hp⟩ := bind_inv hp
   refine SL.eff0 (e_updf (sz := 10) (R := R_T_api_Bond) (i := 1) (iv := i_2) (cs1 := (C_api_Bond ({ x_5 with Used := x_4.2 }) (.s 3))) (e := { x_5 with Used := x_4.2 }) tk rfl rfl rfl (by kernel_rfl) rfl rfl rfl (clo_T_api_Bond (x := { x_5 with Used := x_4.2 }) (Clo.sl (by kernel_rfl))) (by kernel_rfl) (by kernel_rfl) e_l_6) ?_
   refine SL.norm (itsN := [.rd 10 R_T_api_Bond l_1, .own 10 30 R_T_api_Bond l_6, .gone, .rd 2 R_T_api_Subscription x_5.Subs]) (by kernel_rfl) ?_
   refine SL.nilThen ?_
   refine SC.r tk [(4, vs 1)] [] [] [] (by kernel_rfl) ?_
   obtain rfl := some_inv' hp
   exact SC.re (js := [.g 0, .z 1]) tk (by kernel_rfl)

theorem ok_wirelesslaw40_key (F : Nat) (l_1 : (List T_api_Bond)) (a_2 : T_api_Address) (k_3 : Int) (r : Bool × Bool) (hp : wirelesslaw40_key F l_1 a_2 k_3 = some r) : Spec Tryd.prog 27 [vs 0, .g (C_api_Address a_2), vi .u64 k_3] [.rd 10 R_T_api_Bond l_1] (.u [.inl (cb r.1), .inl (cb r.2)]) [.gone] := by
 refine Spec.enter Tryd.func27 rfl Tryd.ntmps27 rfl rfl fun fx => ?_
 refine SC.seq ?_
 refine SC.reg ?_
 refine SL.eff (e_box (E := 24) (C_api_Address a_2) (by kernel_rfl)) rfl (by kernel_rfl) ?_
 refine SL.sim tk 2 [(0, vs 0), (2, vi .u64 k_3), (4, vp 1 0)] [] [] [] (by kernel_rfl) ?_
 refine SL.nilThen ?_
 refine SC.cut (fun a w => wirelesslaw40_key_j1 F = some r ∧ A 30 1 fx [] [.gone] a w) ?_ ?_
 · refine SC.r tk [(0, vs 0), (2, vi .u64 k_3), (4, vp 1 0), (8, vi .i64 0)] [] [] [] (by kernel_rfl) ?_
   refine SC.block ?_
   obtain ⟨o1, hi1, ho1⟩ := bind_inv hp
   clear hp
   refine SC.loop (fun n a w => ∃ (x_4 : Int), iter (fun s => wirelesslaw40_key_l1 F l_1 a_2 k_3 s) n (x_4) = some o1 ∧ A 30 1 fx [(0, vs 0), (2, vi .u64 k_3), (4, vp 1 0), (8, vi .i64 x_4)] [.rd 10 R_T_api_Bond l_1, .blk 24 (C_api_Address a_2)] a w) F (fun a w h => ⟨0, hi1, h.at (js := [.g 0, .g 1]) (by kernel_rfl)⟩) ?_
   rintro n1 a w ⟨x_4, hi1, h⟩
   obtain ⟨n1, q1, rfl, hp, hs1⟩ := iter_inv hi1
   replace hp : wirelesslaw40_key_l1 F l_1 a_2 k_3 x_4 = some q1 := hp
   clear hi1
   refine h.go ?_
   refine SC.seq ?_
   refine SC.r tk [(0, vs 0), (2, vi .u64 k_3), (4, vp 1 0), (8, vi .i64 x_4), (12, vb (decide (x_4 < (len l_1))))] [] [] [] (by kernel_rfl) ?_
   refine SC.if' rfl hp (fun hp => ?_) (fun hp => ?_)
   · refine SC.skipThen ?_
     refine SC.seq ?_
     refine SC.block ?_
     refine SC.cut (fun a w => ∃ (z_5 : Bool), wirelesslaw40_key_j2 F l_1 k_3 x_4 z_5 = some q1 ∧ A 30 1 fx [(0, vs 0), (2, vi .u64 k_3), (4, vp 1 0), (8, vi .i64 x_4), (22, vb z_5)] [.rd 10 R_T_api_Bond l_1, .blk 24 (C_api_Address a_2)] a w) ?_ ?_
     · obtain ⟨x_10, e_x_10, hp⟩ := bind_inv hp
       refine SC.pre (pre_ix (i := 0) (iv := x_4) (sz := 10) (R := R_T_api_Bond) (l := l_1) (by kernel_rfl) rfl e_x_10) ?_
       refine SC.draw MO [true, true, true, true] (by kernel_rfl) fun kap_11 D_12 => ?_
       refine SD.takes tk D_12 [] kn0 [0, 1, 2, 3, 4, 5, 6] [.el 2] [x_4] [I, I, I, I, I, I, I, O] [(0, vs 0), (2, vi .u64 k_3), (4, vp 1 0), (8, vi .i64 x_4), (20, .g (C_api_Address x_10.Peer.Address)), (21, .g (C_api_Address a_2))] rfl (by kernel_rfl) (by kernel_rfl) (by kernel_rfl) ?_
       refine SD.all1 (i := 7) (by kernel_rfl) ?_
       refine SW.eff D_12 (i := 7) (bs' := [I, I, I, I, I, I, I, I]) rfl (.inl rfl) rfl (e_eqs tk (cs := (C_api_Address x_10.Peer.Address)) (ds := (C_api_Address a_2)) [(x_10.Peer.Address.Kind == a_2.Kind), (x_10.Peer.Address.Bits == a_2.Bits)] ((x_10.Peer.Address.Kind == a_2.Kind) && (x_10.Peer.Address.Bits == a_2.Bits)) rfl rfl (by kernel_rfl) (by kernel_rfl) (by kernel_rfl) (.inl ⟨rfl, (by kernel_rfl)⟩)) (by kernel_rfl) rfl (by kernel_rfl) ?_
       refine SD.done (by kernel_rfl) fun a w h => ?_
       exact ⟨((x_10.Peer.Address.Kind == a_2.Kind) && (x_10.Peer.Address.Bits == a_2.Bits)), hp, h.at (js := [.g 0, .g 1]) (by kernel_rfl)⟩
     · rintro a w ⟨z_5, hp, h⟩
       refine h.go ?_
       refine SC.if' rfl hp (fun hp => ?_) (fun hp => ?_)
       · refine SC.cut (fun a w => ∃ (z_6 : Bool), wirelesslaw40_key_j3 F z_6 = some q1 ∧ A 30 1 fx [(6, vb true), (7, vb z_6)] [.gone] a w) ?_ ?_
         · obtain ⟨x_7, e_x_7, hp⟩ := bind_inv hp
           refine SC.pre (pre_ix (i := 0) (iv := x_4) (sz := 10) (R := R_T_api_Bond) (l := l_1) (by kernel_rfl) rfl e_x_7) ?_
           refine SC.draw MO [true, true, true, true] (by kernel_rfl) fun kap_8 D_9 => ?_
           refine SD.takes tk D_9 [] kn0 [0, 1, 2, 3, 4, 5, 6, 7, 8] [.el 2] [x_4] [I, I, I, I, I, I, I, I, I] [(6, vb true), (7, vb (x_7.LTK == k_3))] rfl (by kernel_rfl) (by kernel_rfl) (by kernel_rfl) ?_
           refine SD.done (by kernel_rfl) fun a w h => ?_
           exact ⟨(x_7.LTK == k_3), hp, h.at (js := [.g 0]) (by kernel_rfl)⟩
         · rintro a w ⟨z_6, hp, h⟩
           refine h.go ?_
           have ho := done_inv hp hs1
           replace hp := ho1
           try rw [ho] at hp
           obtain rfl := some_inv' hp
           exact SC.re (js := [.g 0]) tk (by kernel_rfl)
       · refine SC.skipThen ?_
         refine SC.reg ?_
         refine SL.sim tk 3 [(0, vs 0), (2, vi .u64 k_3), (4, vp 1 0), (8, vi .i64 (w64 (x_4 + 1)))] [] [] [] (by kernel_rfl) ?_
         refine SL.nilJ fun a w h => ?_
         exact ⟨n1, Nat.lt_succ_self _, w64 (x_4 + 1), next_inv hp hs1, h.at (js := [.g 0, .g 1]) (by kernel_rfl)⟩
   · refine SC.exitJ rfl fun a w h => ?_
     have ho := done_inv hp hs1
     replace hp := ho1
     try rw [ho] at hp
     exact ⟨hp, h.at (js := [.g 0]) (by kernel_rfl)⟩
 · rintro a w ⟨hp, h⟩
   refine h.go ?_
   refine SC.r tk [(6, vb false), (7, vb false)] [] [] [] (by kernel_rfl) ?_
   obtain rfl := some_inv' hp
   exact SC.re (js := [.g 0]) tk (by kernel_rfl)

theorem ok_wirelesslaw40_BondsRecent (F : Nat) (l_1 : (List T_api_Bond)) (b_2 : T_api_Bond) (c_3 : T_api_Bond) (i_4 : Int) (r : Bool) (hp : wirelesslaw40_BondsRecent F l_1 b_2 c_3 i_4 = some r) : Spec Tryd.prog 5 [vs 0, .g (C_api_Bond b_2 (.s 1)), .g (C_api_Bond c_3 (.s 2)), vi .i64 i_4] [.rd 10 R_T_api_Bond l_1, .rd 2 R_T_api_Subscription b_2.Subs, .rd 2 R_T_api_Subscription c_3.Subs] (vb r) [.gone, .gone, .gone] := by
 refine Spec.enter Tryd.func5 rfl Tryd.ntmps5 rfl rfl fun fx => ?_
 refine SC.seq ?_
 refine SC.reg ?_
 refine SL.eff (e_box (E := 30) (C_api_Bond b_2 (.s 1)) (by kernel_rfl)) rfl (by kernel_rfl) ?_
 refine SL.eff (e_box (E := 30) (C_api_Bond c_3 (.s 2)) (by kernel_rfl)) rfl (by kernel_rfl) ?_
 refine SL.sim tk 1 [(0, vs 0), (3, vi .i64 i_4), (5, vp 3 0), (6, vp 4 0)] [] [] [] (by kernel_rfl) ?_
 refine SL.nilThen ?_
 refine SC.seq ?_
 refine SC.seq ?_
 refine SC.reg ?_
 obtain ⟨x_5, e_x_5, hp⟩ := bind_inv hp
 refine SL.eff (e_c Tryd.call8 (ok_wirelesslaw40_lives F  _ e_x_5) [] [] (vb x_5) (by kernel_rfl) (.inl rfl)) rfl (by kernel_rfl) ?_
 refine SL.norm (itsN := [.rd 10 R_T_api_Bond l_1, .rd 2 R_T_api_Subscription b_2.Subs, .rd 2 R_T_api_Subscription c_3.Subs, .blk 30 (C_api_Bond b_2 (.s 1)), .blk 30 (C_api_Bond c_3 (.s 2))]) (by kernel_rfl) ?_
 refine SL.sim tk 1 [(0, vs 0), (3, vi .i64 i_4), (5, vp 3 0), (6, vp 4 0), (22, vb (!x_5))] [] [] [] (by kernel_rfl) ?_
 refine SL.nilThen ?_
 refine SC.if' rfl hp (fun hp => ?_) (fun hp => ?_)
 · refine SC.r tk [(8, vb false)] [] [] [] (by kernel_rfl) ?_
   obtain rfl := some_inv' hp
   exact SC.re (js := [.g 0, .g 1, .g 2]) tk (by kernel_rfl)
 · refine SC.skipThen ?_
   refine SC.seq ?_
   refine SC.seq ?_
   refine SC.reg ?_
   refine SL.sim tk 1 [(0, vs 0), (3, vi .i64 i_4), (5, vp 3 0), (6, vp 4 0), (23, vs 0)] [] [] [] (by kernel_rfl) ?_
   obtain ⟨x_6, e_x_6, hp⟩ := bind_inv hp
   refine SL.eff (e_c Tryd.call17 (ok_wirelessref40_Valid F l_1 _ e_x_6) [.g 0] [vs 0] (vb x_6) (by kernel_rfl) (.inl rfl)) rfl (by kernel_rfl) ?_
   refine SL.sim tk 13 [(0, vs 0), (3, vi .i64 i_4), (5, vp 3 0), (6, vp 4 0), (37, vb (((!x_6) || (decide ((len b_2.Subs) > 64))) || (decide ((len c_3.Subs) > 64))))] [] [] [] (by kernel_rfl) ?_
   refine SL.nilThen ?_
   refine SC.if' rfl hp (fun hp => ?_) (fun hp => ?_)
   · refine SC.r tk [(8, vb true)] [] [] [] (by kernel_rfl) ?_
     obtain rfl := some_inv' hp
     exact SC.re (js := [.g 0, .g 1, .g 2]) tk (by kernel_rfl)
   · refine SC.skipThen ?_
     refine SC.cut (fun a w => ∃ (l_7 : (List T_api_Bond)) (x_8 : Int) (x_9 : Int), wirelesslaw40_BondsRecent_j1 F l_1 c_3 i_4 l_7 x_8 x_9 = some r ∧ A 125 3 fx [(0, vs 0), (3, vi .i64 i_4), (6, vp 3 0), (9, vs 4), (10, vi .i64 x_8), (11, vi .i64 x_9)] [.rd 10 R_T_api_Bond l_1, .gone, .rd 2 R_T_api_Subscription c_3.Subs, .blk 30 (C_api_Bond c_3 (.s 2)), .rd 10 R_T_api_Bond l_7] a w) ?_ ?_
     · refine SC.draw MO [true, true, true, true, true] (by kernel_rfl) fun kap_2749 D_2750 => ?_
       refine SD.takes tk D_2750 [] kn0 [0, 2] [] [] [I, O, I, O, O, O, O, O, O, O, O, O, O, O, O] [(0, vs 0), (3, vi .i64 i_4), (6, vp 4 0), (39, vs 0), (41, .g (C_api_Bond b_2 (.s 1)))] rfl (by kernel_rfl) (by kernel_rfl) (by kernel_rfl) ?_
       obtain ⟨x_2831, e_x_2831, hp⟩ := bind_inv hp
       obtain ⟨x_3071, e_x_3071, hp⟩ := bind_inv hp
       obtain ⟨x_3151, e_x_3151, hp⟩ := bind_inv hp
       obtain ⟨x_3311, e_x_3311, hp⟩ := bind_inv hp
       refine SD.lay 0 [I, I, I, I, I, I, I, I, I, I, I, I, I, I, I] [(0, vs 0), (3, vi .i64 i_4), (6, vp 4 0), (9, vs 10), (10, vi .i64 x_3311.2.1), (11, vi .i64 x_3311.2.2)] [.rd 10 R_T_api_Bond l_1, .rd 2 R_T_api_Subscription b_2.Subs, .rd 2 R_T_api_Subscription c_3.Subs, .blk 30 (C_api_Bond b_2 (.s 1)), .blk 30 (C_api_Bond c_3 (.s 2)), .gone, .gone, .gone, .gone, .gone, .rd 10 R_T_api_Bond x_3311.1] ?_ (fun c_2750_0 => ?_)
       · refine SD.done (by kernel_rfl) fun a w h => ?_
         exact ⟨x_3311.1, x_3311.2.1, x_3311.2.2, hp, h.at (js := [.g 0, .g 1, .g 2, .g 4, .g 10]) (by kernel_rfl)⟩
       · refine SD.lay 8 [I, I, I, I, I, I, I, O, O, O, O, O, O, O, O] [(0, vs 0), (3, vi .i64 i_4), (6, vp 4 0), (40, vs 5), (45, .g (C_api_Bond x_3151 (.s 9)))] [.rd 10 R_T_api_Bond l_1, .rd 2 R_T_api_Subscription b_2.Subs, .rd 2 R_T_api_Subscription c_3.Subs, .blk 30 (C_api_Bond b_2 (.s 1)), .blk 30 (C_api_Bond c_3 (.s 2)), .rd 10 R_T_api_Bond x_2831, .gone, .gone, .gone, .rd 2 R_T_api_Subscription x_3151.Subs] ?_ (fun c_2750_1 => ?_)
         · refine SD.all1 (i := 7) (by kernel_rfl) ?_
           refine SW.eff D_2750 (i := 7) (bs' := [I, I, I, I, I, I, I, I, O, O, O, O, O, O, O]) rfl (.inl rfl) rfl (e_c Tryd.call18 (ok_bonds_Add F x_2831 x_3151 _ e_x_3311) [.g 5, .g 9] [vs 5, .g (C_api_Bond x_3151 (.s 9))] (.u [.inl (.s 10), .inl (ci .i64 x_3311.2.1), .inl (ci .i64 x_3311.2.2)]) (by kernel_rfl) (.inl rfl)) (by kernel_rfl) rfl (by kernel_rfl) ?_
           refine SD.takes tk D_2750 [] kn0 [8, 9, 10, 11, 12, 13, 14] [] [] [I, I, I, I, I, I, I, I, I, I, I, I, I, I, I] [(0, vs 0), (3, vi .i64 i_4), (6, vp 4 0), (9, vs 10), (10, vi .i64 x_3311.2.1), (11, vi .i64 x_3311.2.2)] rfl (by kernel_rfl) (by kernel_rfl) (by kernel_rfl) ?_
           exact SD.vie D_2750 [.g 0, .g 1, .g 2, .g 3, .g 4, .n, .n, .n, .n, .n, .g 10] c_2750_0 (by kernel_rfl)
         · refine SD.lay 9 [I, I, I, I, I, I, O, O, O, O, O, O, O, O, O] [(0, vs 0), (3, vi .i64 i_4), (6, vp 4 0), (40, vs 5), (44, vp 8 0)] [.rd 10 R_T_api_Bond l_1, .rd 2 R_T_api_Subscription b_2.Subs, .rd 2 R_T_api_Subscription c_3.Subs, .blk 30 (C_api_Bond b_2 (.s 1)), .blk 30 (C_api_Bond c_3 (.s 2)), .rd 10 R_T_api_Bond x_2831, .gone, .gone, .elt none false (C_api_Bond x_3151 (.s 9)), .rd 2 R_T_api_Subscription x_3151.Subs] ?_ (fun c_2750_2 => ?_)
           · refine SD.all1 (i := 6) (by kernel_rfl) ?_
             refine SW.eff D_2750 (i := 6) (v := .g (C_api_Bond x_3151 (.s 9))) (bs' := [I, I, I, I, I, I, I, O, O, O, O, O, O, O, O]) rfl (.inl rfl) rfl (e_val tk (by kernel_rfl)) (by kernel_rfl) rfl (by kernel_rfl) ?_
             exact SD.vie D_2750 [.g 0, .g 1, .g 2, .g 3, .g 4, .g 5, .n, .n, .n, .g 9] c_2750_1 (by kernel_rfl)
           · refine SD.lay 10 [I, I, I, I, I, O, O, O, O, O, O, O, O, O, O] [(0, vs 0), (3, vi .i64 i_4), (6, vp 4 0), (40, vs 5), (43, vs 7)] [.rd 10 R_T_api_Bond l_1, .rd 2 R_T_api_Subscription b_2.Subs, .rd 2 R_T_api_Subscription c_3.Subs, .blk 30 (C_api_Bond b_2 (.s 1)), .blk 30 (C_api_Bond c_3 (.s 2)), .rd 10 R_T_api_Bond x_2831, .gone, .rd 10 R_T_api_Bond x_3071] ?_ (fun c_2750_3 => ?_)
             · refine SD.pre (pre_ix (i := 7) (iv := 0) (sz := 10) (R := R_T_api_Bond) (l := x_3071) (by kernel_rfl) rfl e_x_3151) ?_
               refine SD.all1 (i := 5) (by kernel_rfl) ?_
               refine SW.eff D_2750 (i := 5) (v := vp 8 0) (bs' := [I, I, I, I, I, I, O, O, O, O, O, O, O, O, O]) rfl (.inl rfl) rfl (e_valE tk (.el 8) [0] (by kernel_rfl)) (by kernel_rfl) rfl (by kernel_rfl) ?_
               exact SD.vie D_2750 [.g 0, .g 1, .g 2, .g 3, .g 4, .g 5, .n, .n, .g 8, .g 9] c_2750_2 (by kernel_rfl)
             · refine SD.lay 11 [I, I, I, I, O, O, O, O, O, O, O, O, O, O, O] [(0, vs 0), (3, vi .i64 i_4), (6, vp 4 0), (40, vs 5), (42, vs 6)] [.rd 10 R_T_api_Bond l_1, .rd 2 R_T_api_Subscription b_2.Subs, .rd 2 R_T_api_Subscription c_3.Subs, .blk 30 (C_api_Bond b_2 (.s 1)), .blk 30 (C_api_Bond c_3 (.s 2)), .rd 10 R_T_api_Bond x_2831, .own 10 30 R_T_api_Bond [b_2]] ?_ (fun c_2750_4 => ?_)
               · refine SD.pre (pre_frz (i := 6) (sz := 10) (E := 30) (R := R_T_api_Bond) (l := [b_2]) (by kernel_rfl)) ?_
                 refine SD.all1 (i := 4) (by kernel_rfl) ?_
                 refine SW.eff D_2750 (i := 4) (bs' := [I, I, I, I, I, O, O, O, O, O, O, O, O, O, O]) rfl (.inl rfl) rfl (e_c Tryd.call9 (ok_wirelessref40_Copy F [b_2] _ e_x_3071) [.g 6] [vs 6] (vs 7) (by kernel_rfl) (.inl rfl)) (by kernel_rfl) rfl (by kernel_rfl) ?_
                 exact SD.vie D_2750 [.g 0, .g 1, .g 2, .g 3, .g 4, .g 5, .n, .g 7] c_2750_3 (by kernel_rfl)
               · refine SD.lay 12 [I, I, I, O, O, O, O, O, O, O, O, O, O, O, O] [(0, vs 0), (3, vi .i64 i_4), (6, vp 4 0), (40, vs 5), (41, .g (C_api_Bond b_2 (.s 1)))] [.rd 10 R_T_api_Bond l_1, .rd 2 R_T_api_Subscription b_2.Subs, .rd 2 R_T_api_Subscription c_3.Subs, .blk 30 (C_api_Bond b_2 (.s 1)), .blk 30 (C_api_Bond c_3 (.s 2)), .rd 10 R_T_api_Bond x_2831] ?_ (fun c_2750_5 => ?_)
                 · refine SD.all1 (i := 3) (by kernel_rfl) ?_
                   refine SW.eff D_2750 (i := 3) (bs' := [I, I, I, I, O, O, O, O, O, O, O, O, O, O, O]) rfl (.inl rfl) rfl (e_lit (sz := 10) (E := 30) (R := R_T_api_Bond) (by_ := 96) tk [(C_api_Bond b_2 (.s 1))] [b_2] (by kernel_rfl) ⟨(clo_T_api_Bond (x := b_2) (Clo.sl (by kernel_rfl))), trivial⟩ rfl (by kernel_rfl) (by kernel_rfl)) (by kernel_rfl) rfl (by kernel_rfl) ?_
                   exact SD.vie D_2750 [.g 0, .g 1, .g 2, .g 3, .g 4, .g 5, .g 6] c_2750_4 (by kernel_rfl)
                 · refine SD.lay 12 [I, O, I, I, O, O, O, O, O, O, O, O, O, O, O] [(0, vs 0), (3, vi .i64 i_4), (6, vp 4 0), (39, vs 0), (42, vs 5)] [.rd 10 R_T_api_Bond l_1, .rd 2 R_T_api_Subscription b_2.Subs, .rd 2 R_T_api_Subscription c_3.Subs, .blk 30 (C_api_Bond b_2 (.s 1)), .blk 30 (C_api_Bond c_3 (.s 2)), .own 10 30 R_T_api_Bond [b_2]] ?_ (fun c_2750_6 => ?_)
                   · refine SD.all1 (i := 1) (by kernel_rfl) ?_
                     refine SW.eff D_2750 (i := 1) (bs' := [I, I, I, I, O, O, O, O, O, O, O, O, O, O, O]) rfl (.inl rfl) rfl (e_c Tryd.call9 (ok_wirelessref40_Copy F l_1 _ e_x_2831) [.g 0] [vs 0] (vs 6) (by kernel_rfl) (.inl rfl)) (by kernel_rfl) rfl (by kernel_rfl) ?_
                     exact SD.vie D_2750 [.g 0, .g 1, .g 2, .g 3, .g 4, .g 6, .g 5] c_2750_4 (by kernel_rfl)
                   · refine SD.all2 (i := 1) (j := 3) (by kernel_rfl) ?_ ?_
                     · refine SW.eff D_2750 (i := 1) (bs' := [I, I, I, O, O, O, O, O, O, O, O, O, O, O, O]) rfl (.inl rfl) rfl (e_c Tryd.call9 (ok_wirelessref40_Copy F l_1 _ e_x_2831) [.g 0] [vs 0] (vs 5) (by kernel_rfl) (.inl rfl)) (by kernel_rfl) rfl (by kernel_rfl) ?_
                       refine SD.norm (itsN := [.rd 10 R_T_api_Bond l_1, .rd 2 R_T_api_Subscription b_2.Subs, .rd 2 R_T_api_Subscription c_3.Subs, .blk 30 (C_api_Bond b_2 (.s 1)), .blk 30 (C_api_Bond c_3 (.s 2)), .rd 10 R_T_api_Bond x_2831]) (by kernel_rfl) ?_
                       exact SD.vie D_2750 [.g 0, .g 1, .g 2, .g 3, .g 4, .g 5] c_2750_5 (by kernel_rfl)
                     · refine SW.eff D_2750 (i := 3) (bs' := [I, O, I, I, O, O, O, O, O, O, O, O, O, O, O]) rfl (.inl rfl) rfl (e_lit (sz := 10) (E := 30) (R := R_T_api_Bond) (by_ := 96) tk [(C_api_Bond b_2 (.s 1))] [b_2] (by kernel_rfl) ⟨(clo_T_api_Bond (x := b_2) (Clo.sl (by kernel_rfl))), trivial⟩ rfl (by kernel_rfl) (by kernel_rfl)) (by kernel_rfl) rfl (by kernel_rfl) ?_
                       refine SD.norm (itsN := [.rd 10 R_T_api_Bond l_1, .rd 2 R_T_api_Subscription b_2.Subs, .rd 2 R_T_api_Subscription c_3.Subs, .blk 30 (C_api_Bond b_2 (.s 1)), .blk 30 (C_api_Bond c_3 (.s 2)), .own 10 30 R_T_api_Bond [b_2]]) (by kernel_rfl) ?_
                       exact SD.vie D_2750 [.g 0, .g 1, .g 2, .g 3, .g 4, .g 5] c_2750_6 (by kernel_rfl)
     · rintro a w ⟨l_7, x_8, x_9, hp, h⟩
       refine h.go ?_
       refine SC.seq ?_
       refine SC.r tk [(0, vs 0), (3, vi .i64 i_4), (6, vp 3 0), (9, vs 4), (10, vi .i64 x_8), (51, vb (x_9 != 0))] [] [] [] (by kernel_rfl) ?_
       refine SC.if' rfl hp (fun hp => ?_) (fun hp => ?_)
       · refine SC.seq ?_
         refine SC.reg ?_
         refine SL.sim tk 2 [(52, vs 4), (53, vs 0)] [] [] [] (by kernel_rfl) ?_
         obtain ⟨x_10, e_x_10, hp⟩ := bind_inv hp
         refine SL.eff (e_c Tryd.call22 (ok_wirelessref40_Same F l_7 l_1 _ e_x_10) [.g 4, .g 0] [vs 4, vs 0] (vb x_10) (by kernel_rfl) (.inl rfl)) rfl (by kernel_rfl) ?_
         refine SL.sim tk 1 [(8, vb x_10)] [] [] [] (by kernel_rfl) ?_
         refine SL.nilThen ?_
         obtain rfl := some_inv' hp
         exact SC.re (js := [.g 0, .g 1, .g 2]) tk (by kernel_rfl)
       · refine SC.skipThen ?_
         refine SC.seq ?_
         refine SC.reg ?_
         obtain ⟨x_11, e_x_11, hp⟩ := bind_inv hp
         refine SL.pre (pre_ix (i := 4) (iv := x_8) (sz := 10) (R := R_T_api_Bond) (l := l_7) (by kernel_rfl) rfl e_x_11) ?_
         refine SL.sim tk 6 [(0, vs 0), (3, vi .i64 i_4), (6, vp 3 0), (9, vs 4), (60, .g (C_api_Address x_11.Peer.Address))] [] [.el 5] [x_8] (by kernel_rfl) ?_
         refine SL.eff (e_alloc (E := 24) tk [ci .i64 0, ci .u64 0] (by kernel_rfl)) rfl (by kernel_rfl) ?_
         refine SL.sim tk 1 [(0, vs 0), (3, vi .i64 i_4), (6, vp 3 0), (9, vs 4), (12, vp 7 0)] [(7, 24, (C_api_Address x_11.Peer.Address))] [] [] (by kernel_rfl) ?_
         refine SL.nilThen ?_
         refine SC.cut (fun a w => ∃ (l_12 : (List T_api_Bond)) (x_13 : Int), wirelesslaw40_BondsRecent_j2 F l_1 c_3 i_4 x_11 l_12 x_13 = some r ∧ A 125 3 fx [(0, vs 0), (3, vi .i64 i_4), (6, vp 3 0), (12, vp 4 0), (13, vs 5), (15, vi .i64 x_13)] [.rd 10 R_T_api_Bond l_1, .gone, .rd 2 R_T_api_Subscription c_3.Subs, .blk 30 (C_api_Bond c_3 (.s 2)), .blk 24 (C_api_Address x_11.Peer.Address), .rd 10 R_T_api_Bond l_12] a w) ?_ ?_
         · refine SC.draw MO [I, O, I, I, I, I, I, I] (by kernel_rfl) fun kap_1467 D_1468 => ?_
           refine SD.takes tk D_1468 [] kn0 [0, 2] [] [] [I, O, I, O, O, O, O, O, O, O, O, O, O, O, O] [(0, vs 0), (3, vi .i64 i_4), (6, vp 3 0), (12, vp 7 0), (62, vs 4), (64, .g (C_api_Bond c_3 (.s 2)))] rfl (by kernel_rfl) (by kernel_rfl) (by kernel_rfl) ?_
           obtain ⟨x_1549, e_x_1549, hp⟩ := bind_inv hp
           obtain ⟨x_1789, e_x_1789, hp⟩ := bind_inv hp
           obtain ⟨x_1869, e_x_1869, hp⟩ := bind_inv hp
           obtain ⟨x_2029, e_x_2029, hp⟩ := bind_inv hp
           refine SD.lay 0 [I, I, I, I, I, I, I, I, I, I, I, I, I, I, I] [(0, vs 0), (3, vi .i64 i_4), (6, vp 3 0), (12, vp 7 0), (13, vs 13), (15, vi .i64 x_2029.2.2)] [.rd 10 R_T_api_Bond l_1, .gone, .rd 2 R_T_api_Subscription c_3.Subs, .blk 30 (C_api_Bond c_3 (.s 2)), .rd 10 R_T_api_Bond l_7, .elt (some (4, x_8)) false (C_api_Bond x_11 (.s 6)), .rd 2 R_T_api_Subscription x_11.Subs, .blk 24 (C_api_Address x_11.Peer.Address), .gone, .gone, .gone, .gone, .gone, .rd 10 R_T_api_Bond x_2029.1] ?_ (fun c_1468_0 => ?_)
           · refine SD.done (by kernel_rfl) fun a w h => ?_
             exact ⟨x_2029.1, x_2029.2.2, hp, h.at (js := [.g 0, .g 1, .g 2, .g 3, .g 7, .g 13]) (by kernel_rfl)⟩
           · refine SD.lay 8 [I, I, I, I, I, I, I, O, O, O, O, O, O, O, O] [(0, vs 0), (3, vi .i64 i_4), (6, vp 3 0), (12, vp 7 0), (63, vs 8), (68, .g (C_api_Bond x_1869 (.s 12)))] [.rd 10 R_T_api_Bond l_1, .gone, .rd 2 R_T_api_Subscription c_3.Subs, .blk 30 (C_api_Bond c_3 (.s 2)), .rd 10 R_T_api_Bond l_7, .elt (some (4, x_8)) false (C_api_Bond x_11 (.s 6)), .rd 2 R_T_api_Subscription x_11.Subs, .blk 24 (C_api_Address x_11.Peer.Address), .rd 10 R_T_api_Bond x_1549, .gone, .gone, .gone, .rd 2 R_T_api_Subscription x_1869.Subs] ?_ (fun c_1468_1 => ?_)
             · refine SD.all1 (i := 7) (by kernel_rfl) ?_
               refine SW.eff D_1468 (i := 7) (bs' := [I, I, I, I, I, I, I, I, O, O, O, O, O, O, O]) rfl (.inl rfl) rfl (e_c Tryd.call18 (ok_bonds_Add F x_1549 x_1869 _ e_x_2029) [.g 8, .g 12] [vs 8, .g (C_api_Bond x_1869 (.s 12))] (.u [.inl (.s 13), .inl (ci .i64 x_2029.2.1), .inl (ci .i64 x_2029.2.2)]) (by kernel_rfl) (.inl rfl)) (by kernel_rfl) rfl (by kernel_rfl) ?_
               refine SD.takes tk D_1468 [] kn0 [8, 9, 10, 11, 12, 13, 14] [] [] [I, I, I, I, I, I, I, I, I, I, I, I, I, I, I] [(0, vs 0), (3, vi .i64 i_4), (6, vp 3 0), (12, vp 7 0), (13, vs 13), (15, vi .i64 x_2029.2.2)] rfl (by kernel_rfl) (by kernel_rfl) (by kernel_rfl) ?_
               exact SD.vie D_1468 [.g 0, .g 1, .g 2, .g 3, .g 4, .g 5, .g 6, .g 7, .n, .n, .n, .n, .n, .g 13] c_1468_0 (by kernel_rfl)
             · refine SD.lay 9 [I, I, I, I, I, I, O, O, O, O, O, O, O, O, O] [(0, vs 0), (3, vi .i64 i_4), (6, vp 3 0), (12, vp 7 0), (63, vs 8), (67, vp 11 0)] [.rd 10 R_T_api_Bond l_1, .gone, .rd 2 R_T_api_Subscription c_3.Subs, .blk 30 (C_api_Bond c_3 (.s 2)), .rd 10 R_T_api_Bond l_7, .elt (some (4, x_8)) false (C_api_Bond x_11 (.s 6)), .rd 2 R_T_api_Subscription x_11.Subs, .blk 24 (C_api_Address x_11.Peer.Address), .rd 10 R_T_api_Bond x_1549, .gone, .gone, .elt none false (C_api_Bond x_1869 (.s 12)), .rd 2 R_T_api_Subscription x_1869.Subs] ?_ (fun c_1468_2 => ?_)
               · refine SD.all1 (i := 6) (by kernel_rfl) ?_
                 refine SW.eff D_1468 (i := 6) (v := .g (C_api_Bond x_1869 (.s 12))) (bs' := [I, I, I, I, I, I, I, O, O, O, O, O, O, O, O]) rfl (.inl rfl) rfl (e_val tk (by kernel_rfl)) (by kernel_rfl) rfl (by kernel_rfl) ?_
                 exact SD.vie D_1468 [.g 0, .g 1, .g 2, .g 3, .g 4, .g 5, .g 6, .g 7, .g 8, .n, .n, .n, .g 12] c_1468_1 (by kernel_rfl)
               · refine SD.lay 10 [I, I, I, I, I, O, O, O, O, O, O, O, O, O, O] [(0, vs 0), (3, vi .i64 i_4), (6, vp 3 0), (12, vp 7 0), (63, vs 8), (66, vs 10)] [.rd 10 R_T_api_Bond l_1, .gone, .rd 2 R_T_api_Subscription c_3.Subs, .blk 30 (C_api_Bond c_3 (.s 2)), .rd 10 R_T_api_Bond l_7, .elt (some (4, x_8)) false (C_api_Bond x_11 (.s 6)), .rd 2 R_T_api_Subscription x_11.Subs, .blk 24 (C_api_Address x_11.Peer.Address), .rd 10 R_T_api_Bond x_1549, .gone, .rd 10 R_T_api_Bond x_1789] ?_ (fun c_1468_3 => ?_)
                 · refine SD.pre (pre_ix (i := 10) (iv := 0) (sz := 10) (R := R_T_api_Bond) (l := x_1789) (by kernel_rfl) rfl e_x_1869) ?_
                   refine SD.all1 (i := 5) (by kernel_rfl) ?_
                   refine SW.eff D_1468 (i := 5) (v := vp 11 0) (bs' := [I, I, I, I, I, I, O, O, O, O, O, O, O, O, O]) rfl (.inl rfl) rfl (e_valE tk (.el 11) [0] (by kernel_rfl)) (by kernel_rfl) rfl (by kernel_rfl) ?_
                   exact SD.vie D_1468 [.g 0, .g 1, .g 2, .g 3, .g 4, .g 5, .g 6, .g 7, .g 8, .n, .n, .g 11, .g 12] c_1468_2 (by kernel_rfl)
                 · refine SD.lay 11 [I, I, I, I, O, O, O, O, O, O, O, O, O, O, O] [(0, vs 0), (3, vi .i64 i_4), (6, vp 3 0), (12, vp 7 0), (63, vs 8), (65, vs 9)] [.rd 10 R_T_api_Bond l_1, .gone, .rd 2 R_T_api_Subscription c_3.Subs, .blk 30 (C_api_Bond c_3 (.s 2)), .rd 10 R_T_api_Bond l_7, .elt (some (4, x_8)) false (C_api_Bond x_11 (.s 6)), .rd 2 R_T_api_Subscription x_11.Subs, .blk 24 (C_api_Address x_11.Peer.Address), .rd 10 R_T_api_Bond x_1549, .own 10 30 R_T_api_Bond [c_3]] ?_ (fun c_1468_4 => ?_)
                   · refine SD.pre (pre_frz (i := 9) (sz := 10) (E := 30) (R := R_T_api_Bond) (l := [c_3]) (by kernel_rfl)) ?_
                     refine SD.all1 (i := 4) (by kernel_rfl) ?_
                     refine SW.eff D_1468 (i := 4) (bs' := [I, I, I, I, I, O, O, O, O, O, O, O, O, O, O]) rfl (.inl rfl) rfl (e_c Tryd.call9 (ok_wirelessref40_Copy F [c_3] _ e_x_1789) [.g 9] [vs 9] (vs 10) (by kernel_rfl) (.inl rfl)) (by kernel_rfl) rfl (by kernel_rfl) ?_
                     exact SD.vie D_1468 [.g 0, .g 1, .g 2, .g 3, .g 4, .g 5, .g 6, .g 7, .g 8, .n, .g 10] c_1468_3 (by kernel_rfl)
                   · refine SD.lay 12 [I, I, I, O, O, O, O, O, O, O, O, O, O, O, O] [(0, vs 0), (3, vi .i64 i_4), (6, vp 3 0), (12, vp 7 0), (63, vs 8), (64, .g (C_api_Bond c_3 (.s 2)))] [.rd 10 R_T_api_Bond l_1, .gone, .rd 2 R_T_api_Subscription c_3.Subs, .blk 30 (C_api_Bond c_3 (.s 2)), .rd 10 R_T_api_Bond l_7, .elt (some (4, x_8)) false (C_api_Bond x_11 (.s 6)), .rd 2 R_T_api_Subscription x_11.Subs, .blk 24 (C_api_Address x_11.Peer.Address), .rd 10 R_T_api_Bond x_1549] ?_ (fun c_1468_5 => ?_)
                     · refine SD.all1 (i := 3) (by kernel_rfl) ?_
                       refine SW.eff D_1468 (i := 3) (bs' := [I, I, I, I, O, O, O, O, O, O, O, O, O, O, O]) rfl (.inl rfl) rfl (e_lit (sz := 10) (E := 30) (R := R_T_api_Bond) (by_ := 96) tk [(C_api_Bond c_3 (.s 2))] [c_3] (by kernel_rfl) ⟨(clo_T_api_Bond (x := c_3) (Clo.sl (by kernel_rfl))), trivial⟩ rfl (by kernel_rfl) (by kernel_rfl)) (by kernel_rfl) rfl (by kernel_rfl) ?_
                       exact SD.vie D_1468 [.g 0, .g 1, .g 2, .g 3, .g 4, .g 5, .g 6, .g 7, .g 8, .g 9] c_1468_4 (by kernel_rfl)
                     · refine SD.lay 12 [I, O, I, I, O, O, O, O, O, O, O, O, O, O, O] [(0, vs 0), (3, vi .i64 i_4), (6, vp 3 0), (12, vp 7 0), (62, vs 4), (65, vs 8)] [.rd 10 R_T_api_Bond l_1, .gone, .rd 2 R_T_api_Subscription c_3.Subs, .blk 30 (C_api_Bond c_3 (.s 2)), .rd 10 R_T_api_Bond l_7, .elt (some (4, x_8)) false (C_api_Bond x_11 (.s 6)), .rd 2 R_T_api_Subscription x_11.Subs, .blk 24 (C_api_Address x_11.Peer.Address), .own 10 30 R_T_api_Bond [c_3]] ?_ (fun c_1468_6 => ?_)
                       · refine SD.all1 (i := 1) (by kernel_rfl) ?_
                         refine SW.eff D_1468 (i := 1) (bs' := [I, I, I, I, O, O, O, O, O, O, O, O, O, O, O]) rfl (.inl rfl) rfl (e_c Tryd.call9 (ok_wirelessref40_Copy F l_7 _ e_x_1549) [.g 4] [vs 4] (vs 9) (by kernel_rfl) (.inl rfl)) (by kernel_rfl) rfl (by kernel_rfl) ?_
                         exact SD.vie D_1468 [.g 0, .g 1, .g 2, .g 3, .g 4, .g 5, .g 6, .g 7, .g 9, .g 8] c_1468_4 (by kernel_rfl)
                       · refine SD.all2 (i := 1) (j := 3) (by kernel_rfl) ?_ ?_
                         · refine SW.eff D_1468 (i := 1) (bs' := [I, I, I, O, O, O, O, O, O, O, O, O, O, O, O]) rfl (.inl rfl) rfl (e_c Tryd.call9 (ok_wirelessref40_Copy F l_7 _ e_x_1549) [.g 4] [vs 4] (vs 8) (by kernel_rfl) (.inl rfl)) (by kernel_rfl) rfl (by kernel_rfl) ?_
                           refine SD.norm (itsN := [.rd 10 R_T_api_Bond l_1, .gone, .rd 2 R_T_api_Subscription c_3.Subs, .blk 30 (C_api_Bond c_3 (.s 2)), .rd 10 R_T_api_Bond l_7, .elt (some (4, x_8)) false (C_api_Bond x_11 (.s 6)), .rd 2 R_T_api_Subscription x_11.Subs, .blk 24 (C_api_Address x_11.Peer.Address), .rd 10 R_T_api_Bond x_1549]) (by kernel_rfl) ?_
                           exact SD.vie D_1468 [.g 0, .g 1, .g 2, .g 3, .g 4, .g 5, .g 6, .g 7, .g 8] c_1468_5 (by kernel_rfl)
                         · refine SW.eff D_1468 (i := 3) (bs' := [I, O, I, I, O, O, O, O, O, O, O, O, O, O, O]) rfl (.inl rfl) rfl (e_lit (sz := 10) (E := 30) (R := R_T_api_Bond) (by_ := 96) tk [(C_api_Bond c_3 (.s 2))] [c_3] (by kernel_rfl) ⟨(clo_T_api_Bond (x := c_3) (Clo.sl (by kernel_rfl))), trivial⟩ rfl (by kernel_rfl) (by kernel_rfl)) (by kernel_rfl) rfl (by kernel_rfl) ?_
                           refine SD.norm (itsN := [.rd 10 R_T_api_Bond l_1, .gone, .rd 2 R_T_api_Subscription c_3.Subs, .blk 30 (C_api_Bond c_3 (.s 2)), .rd 10 R_T_api_Bond l_7, .elt (some (4, x_8)) false (C_api_Bond x_11 (.s 6)), .rd 2 R_T_api_Subscription x_11.Subs, .blk 24 (C_api_Address x_11.Peer.Address), .own 10 30 R_T_api_Bond [c_3]]) (by kernel_rfl) ?_
                           exact SD.vie D_1468 [.g 0, .g 1, .g 2, .g 3, .g 4, .g 5, .g 6, .g 7, .g 8] c_1468_6 (by kernel_rfl)
         · rintro a w ⟨l_12, x_13, hp, h⟩
           refine h.go ?_
           refine SC.seq ?_
           refine SC.cut (fun a w => ∃ (z_14 : Bool), wirelesslaw40_BondsRecent_j3 F l_1 c_3 i_4 z_14 = some r ∧ A 125 3 fx [(0, vs 0), (3, vi .i64 i_4), (6, vp 3 0), (86, vb z_14)] [.rd 10 R_T_api_Bond l_1, .gone, .rd 2 R_T_api_Subscription c_3.Subs, .blk 30 (C_api_Bond c_3 (.s 2))] a w) ?_ ?_
           · refine SC.draw MO [I, O, I, I, I, I] (by kernel_rfl) fun kap_1461 D_1462 => ?_
             refine SD.takes tk D_1462 [] kn0 [0, 1, 2] [] [] [I, I, I, O, O, O, O, O, O, O, O, O, O, O] [(0, vs 0), (3, vi .i64 i_4), (6, vp 3 0), (12, vp 4 0), (13, vs 5), (75, vb (x_13 == 0))] rfl (by kernel_rfl) (by kernel_rfl) (by kernel_rfl) ?_
             rcases Bool.eq_false_or_eq_true ((x_13 == 0)) with hg_1463 | hg_1463
             · replace hp := if_t hp hg_1463
               refine SD.takes tk D_1462 [(75, true)] (knS rfl hg_1463 kn0) [3, 4, 5, 6] [] [] [I, I, I, I, I, I, I, O, O, O, O, O, O, O] [(0, vs 0), (3, vi .i64 i_4), (6, vp 3 0), (12, vp 4 0), (13, vs 5), (75, vb (x_13 == 0)), (79, vb (decide ((len l_12) > 16)))] rfl (by kernel_rfl) (by kernel_rfl) (by kernel_rfl) ?_
               rcases Bool.eq_false_or_eq_true (decide ((len l_12) > 16)) with hg_1464 | hg_1464
               · replace hp := if_t hp hg_1464
                 refine SD.takes tk D_1462 [(75, true), (79, true)] (knS rfl hg_1463 (knS rfl hg_1464 kn0)) [7, 8, 9, 10, 11, 12, 13] [] [] [I, I, I, I, I, I, I, I, I, I, I, I, I, I] [(0, vs 0), (3, vi .i64 i_4), (6, vp 3 0), (86, vb true)] rfl (by kernel_rfl) (by kernel_rfl) (by kernel_rfl) ?_
                 refine SD.done (by kernel_rfl) fun a w h => ?_
                 exact ⟨true, hp, h.at (js := [.g 0, .g 1, .g 2, .g 3]) (by kernel_rfl)⟩
               · replace hp := if_f hp hg_1464
                 refine SD.takes tk D_1462 [(75, true), (79, false)] (knS rfl hg_1463 (knS rfl hg_1464 kn0)) [7, 9] [] [] [I, I, I, I, I, I, I, I, O, I, O, O, O, O] [(0, vs 0), (3, vi .i64 i_4), (6, vp 3 0), (75, vb (x_13 == 0)), (79, vb (decide ((len l_12) > 16))), (80, vs 5), (82, .g (C_api_Address x_11.Peer.Address))] rfl (by kernel_rfl) (by kernel_rfl) (by kernel_rfl) ?_
                 obtain ⟨x_1465, e_x_1465, hp⟩ := bind_inv hp
                 refine SD.all1 (i := 8) (by kernel_rfl) ?_
                 refine SW.eff D_1462 (i := 8) (bs' := [I, I, I, I, I, I, I, I, I, I, O, O, O, O]) rfl (.inr ⟨_, _, _, _, rfl, rfl, rfl, hg_1464⟩) rfl (e_c Tryd.call9 (ok_wirelessref40_Copy F l_12 _ e_x_1465) [.g 5] [vs 5] (vs 6) (by kernel_rfl) (.inl rfl)) (by kernel_rfl) rfl (by kernel_rfl) ?_
                 obtain ⟨x_1466, e_x_1466, hp⟩ := bind_inv hp
                 refine SD.all1 (i := 10) (by kernel_rfl) ?_
                 refine SW.eff D_1462 (i := 10) (bs' := [I, I, I, I, I, I, I, I, I, I, I, O, O, O]) rfl (.inr ⟨_, _, _, _, rfl, rfl, rfl, hg_1464⟩) rfl (e_c Tryd.call25 (ok_bonds_Find F x_1465 x_11.Peer.Address _ e_x_1466) [.g 6] [vs 6, .g (C_api_Address x_11.Peer.Address)] (vi .i64 x_1466) (by kernel_rfl) (.inl rfl)) (by kernel_rfl) rfl (by kernel_rfl) ?_
                 refine SD.norm (itsN := [.rd 10 R_T_api_Bond l_1, .gone, .rd 2 R_T_api_Subscription c_3.Subs, .blk 30 (C_api_Bond c_3 (.s 2)), .blk 24 (C_api_Address x_11.Peer.Address), .rd 10 R_T_api_Bond l_12, .rd 10 R_T_api_Bond x_1465]) (by kernel_rfl) ?_
                 refine SD.takes tk D_1462 [(75, true), (79, false)] (knS rfl hg_1463 (knS rfl hg_1464 kn0)) [11, 12, 13] [] [] [I, I, I, I, I, I, I, I, I, I, I, I, I, I] [(0, vs 0), (3, vi .i64 i_4), (6, vp 3 0), (86, vb (decide (x_1466 < 0)))] rfl (by kernel_rfl) (by kernel_rfl) (by kernel_rfl) ?_
                 refine SD.done (by kernel_rfl) fun a w h => ?_
                 exact ⟨decide (x_1466 < 0), hp, h.at (js := [.g 0, .g 1, .g 2, .g 3]) (by kernel_rfl)⟩
             · replace hp := if_f hp hg_1463
               refine SD.takes tk D_1462 [(75, false)] (knS rfl hg_1463 kn0) [3, 4, 5, 6, 7, 8, 9, 10, 11] [] [] [I, I, I, I, I, I, I, I, I, I, I, I, O, O] [(0, vs 0), (3, vi .i64 i_4), (6, vp 3 0), (75, vb (x_13 == 0)), (79, .u []), (84, .u [])] rfl (by kernel_rfl) (by kernel_rfl) (by kernel_rfl) ?_
               refine SD.all1 (i := 12) (by kernel_rfl) ?_
               refine SW.skip D_1462 (i := 12) (bs' := [I, I, I, I, I, I, I, I, I, I, I, I, I, O]) rfl rfl (.inr ⟨_, rfl, hg_1463⟩) rfl rfl (by kernel_rfl) ?_
               refine SD.takes tk D_1462 [(75, false)] (knS rfl hg_1463 kn0) [13] [] [] [I, I, I, I, I, I, I, I, I, I, I, I, I, I] [(0, vs 0), (3, vi .i64 i_4), (6, vp 3 0), (86, vb false)] rfl (by kernel_rfl) (by kernel_rfl) (by kernel_rfl) ?_
               refine SD.done (by kernel_rfl) fun a w h => ?_
               exact ⟨false, hp, h.at (js := [.g 0, .g 1, .g 2, .g 3]) (by kernel_rfl)⟩
           · rintro a w ⟨z_14, hp, h⟩
             refine h.go ?_
             refine SC.if' rfl hp (fun hp => ?_) (fun hp => ?_)
             · refine SC.r tk [(8, vb false)] [] [] [] (by kernel_rfl) ?_
               obtain rfl := some_inv' hp
               exact SC.re (js := [.g 0, .g 1, .g 2]) tk (by kernel_rfl)
             · refine SC.skipThen ?_
               refine SC.seq ?_
               refine SC.r tk [(0, vs 0), (3, vi .i64 i_4), (6, vp 3 0), (94, vb ((decide (i_4 < 0)) || (decide (i_4 ≥ (len l_1)))))] [] [] [] (by kernel_rfl) ?_
               refine SC.if' rfl hp (fun hp => ?_) (fun hp => ?_)
               · refine SC.r tk [(8, vb true)] [] [] [] (by kernel_rfl) ?_
                 obtain rfl := some_inv' hp
                 exact SC.re (js := [.g 0, .g 1, .g 2]) tk (by kernel_rfl)
               · refine SC.skipThen ?_
                 refine SC.cut (fun a w => ∃ (l_15 : (List T_api_Bond)) (x_16 : Int), wirelesslaw40_BondsRecent_j4 F l_1 i_4 l_15 x_16 = some r ∧ A 125 3 fx [(0, vs 0), (3, vi .i64 i_4), (16, vs 3), (18, vi .i64 x_16)] [.rd 10 R_T_api_Bond l_1, .gone, .gone, .rd 10 R_T_api_Bond l_15] a w) ?_ ?_
                 · refine SC.draw MO [true, false, true, true] (by kernel_rfl) fun kap_19 D_20 => ?_
                   refine SD.takes tk D_20 [] kn0 [0, 2, 4] [] [] [I, O, I, O, I, O, O, O, O, O, O, O, O, O, O, O, O] [(0, vs 0), (3, vi .i64 i_4), (96, vs 0), (98, vi .i64 i_4), (100, .g (C_api_Bond c_3 (.s 2)))] rfl (by kernel_rfl) (by kernel_rfl) (by kernel_rfl) ?_
                   obtain ⟨x_101, e_x_101, hp⟩ := bind_inv hp
                   obtain ⟨x_261, e_x_261, hp⟩ := bind_inv hp
                   obtain ⟨x_501, e_x_501, hp⟩ := bind_inv hp
                   obtain ⟨x_581, e_x_581, hp⟩ := bind_inv hp
                   obtain ⟨x_741, e_x_741, hp⟩ := bind_inv hp
                   refine SD.lay 0 [I, I, I, I, I, I, I, I, I, I, I, I, I, I, I, I, I] [(0, vs 0), (3, vi .i64 i_4), (16, vs 10), (18, vi .i64 x_741.2.2)] [.rd 10 R_T_api_Bond l_1, .gone, .rd 2 R_T_api_Subscription c_3.Subs, .blk 30 (C_api_Bond c_3 (.s 2)), .gone, .gone, .gone, .gone, .gone, .gone, .rd 10 R_T_api_Bond x_741.1] ?_ (fun c_20_0 => ?_)
                   · refine SD.done (by kernel_rfl) fun a w h => ?_
                     exact ⟨x_741.1, x_741.2.2, hp, h.at (js := [.g 0, .g 1, .g 2, .g 10]) (by kernel_rfl)⟩
                   · refine SD.lay 8 [I, I, I, I, I, I, I, I, I, O, O, O, O, O, O, O, O] [(0, vs 0), (3, vi .i64 i_4), (99, vs 5), (104, .g (C_api_Bond x_581 (.s 9)))] [.rd 10 R_T_api_Bond l_1, .gone, .rd 2 R_T_api_Subscription c_3.Subs, .blk 30 (C_api_Bond c_3 (.s 2)), .gone, .rd 10 R_T_api_Bond x_261, .gone, .gone, .gone, .rd 2 R_T_api_Subscription x_581.Subs] ?_ (fun c_20_1 => ?_)
                     · refine SD.all1 (i := 9) (by kernel_rfl) ?_
                       refine SW.eff D_20 (i := 9) (bs' := [I, I, I, I, I, I, I, I, I, I, O, O, O, O, O, O, O]) rfl (.inl rfl) rfl (e_c Tryd.call18 (ok_bonds_Add F x_261 x_581 _ e_x_741) [.g 5, .g 9] [vs 5, .g (C_api_Bond x_581 (.s 9))] (.u [.inl (.s 10), .inl (ci .i64 x_741.2.1), .inl (ci .i64 x_741.2.2)]) (by kernel_rfl) (.inl rfl)) (by kernel_rfl) rfl (by kernel_rfl) ?_
                       refine SD.takes tk D_20 [] kn0 [10, 11, 12, 13, 14, 15, 16] [] [] [I, I, I, I, I, I, I, I, I, I, I, I, I, I, I, I, I] [(0, vs 0), (3, vi .i64 i_4), (16, vs 10), (18, vi .i64 x_741.2.2)] rfl (by kernel_rfl) (by kernel_rfl) (by kernel_rfl) ?_
                       exact SD.vie D_20 [.g 0, .g 1, .g 2, .g 3, .n, .n, .n, .n, .n, .n, .g 10] c_20_0 (by kernel_rfl)
                     · refine SD.lay 9 [I, I, I, I, I, I, I, I, O, O, O, O, O, O, O, O, O] [(0, vs 0), (3, vi .i64 i_4), (99, vs 5), (103, vp 8 0)] [.rd 10 R_T_api_Bond l_1, .gone, .rd 2 R_T_api_Subscription c_3.Subs, .blk 30 (C_api_Bond c_3 (.s 2)), .gone, .rd 10 R_T_api_Bond x_261, .gone, .gone, .elt none false (C_api_Bond x_581 (.s 9)), .rd 2 R_T_api_Subscription x_581.Subs] ?_ (fun c_20_2 => ?_)
                       · refine SD.all1 (i := 8) (by kernel_rfl) ?_
                         refine SW.eff D_20 (i := 8) (v := .g (C_api_Bond x_581 (.s 9))) (bs' := [I, I, I, I, I, I, I, I, I, O, O, O, O, O, O, O, O]) rfl (.inl rfl) rfl (e_val tk (by kernel_rfl)) (by kernel_rfl) rfl (by kernel_rfl) ?_
                         exact SD.vie D_20 [.g 0, .g 1, .g 2, .g 3, .n, .g 5, .n, .n, .n, .g 9] c_20_1 (by kernel_rfl)
                       · refine SD.lay 10 [I, I, I, I, I, I, I, O, O, O, O, O, O, O, O, O, O] [(0, vs 0), (3, vi .i64 i_4), (99, vs 5), (102, vs 7)] [.rd 10 R_T_api_Bond l_1, .gone, .rd 2 R_T_api_Subscription c_3.Subs, .blk 30 (C_api_Bond c_3 (.s 2)), .gone, .rd 10 R_T_api_Bond x_261, .gone, .rd 10 R_T_api_Bond x_501] ?_ (fun c_20_3 => ?_)
                         · refine SD.pre (pre_ix (i := 7) (iv := 0) (sz := 10) (R := R_T_api_Bond) (l := x_501) (by kernel_rfl) rfl e_x_581) ?_
                           refine SD.all1 (i := 7) (by kernel_rfl) ?_
                           refine SW.eff D_20 (i := 7) (v := vp 8 0) (bs' := [I, I, I, I, I, I, I, I, O, O, O, O, O, O, O, O, O]) rfl (.inl rfl) rfl (e_valE tk (.el 8) [0] (by kernel_rfl)) (by kernel_rfl) rfl (by kernel_rfl) ?_
                           exact SD.vie D_20 [.g 0, .g 1, .g 2, .g 3, .n, .g 5, .n, .n, .g 8, .g 9] c_20_2 (by kernel_rfl)
                         · refine SD.lay 11 [I, I, I, I, I, I, O, O, O, O, O, O, O, O, O, O, O] [(0, vs 0), (3, vi .i64 i_4), (99, vs 5), (101, vs 6)] [.rd 10 R_T_api_Bond l_1, .gone, .rd 2 R_T_api_Subscription c_3.Subs, .blk 30 (C_api_Bond c_3 (.s 2)), .gone, .rd 10 R_T_api_Bond x_261, .own 10 30 R_T_api_Bond [c_3]] ?_ (fun c_20_4 => ?_)
                           · refine SD.pre (pre_frz (i := 6) (sz := 10) (E := 30) (R := R_T_api_Bond) (l := [c_3]) (by kernel_rfl)) ?_
                             refine SD.all1 (i := 6) (by kernel_rfl) ?_
                             refine SW.eff D_20 (i := 6) (bs' := [I, I, I, I, I, I, I, O, O, O, O, O, O, O, O, O, O]) rfl (.inl rfl) rfl (e_c Tryd.call9 (ok_wirelessref40_Copy F [c_3] _ e_x_501) [.g 6] [vs 6] (vs 7) (by kernel_rfl) (.inl rfl)) (by kernel_rfl) rfl (by kernel_rfl) ?_
                             exact SD.vie D_20 [.g 0, .g 1, .g 2, .g 3, .n, .g 5, .n, .g 7] c_20_3 (by kernel_rfl)
                           · refine SD.lay 12 [I, I, I, I, I, O, O, O, O, O, O, O, O, O, O, O, O] [(0, vs 0), (3, vi .i64 i_4), (99, vs 5), (100, .g (C_api_Bond c_3 (.s 2)))] [.rd 10 R_T_api_Bond l_1, .gone, .rd 2 R_T_api_Subscription c_3.Subs, .blk 30 (C_api_Bond c_3 (.s 2)), .gone, .rd 10 R_T_api_Bond x_261] ?_ (fun c_20_5 => ?_)
                             · refine SD.all1 (i := 5) (by kernel_rfl) ?_
                               refine SW.eff D_20 (i := 5) (bs' := [I, I, I, I, I, I, O, O, O, O, O, O, O, O, O, O, O]) rfl (.inl rfl) rfl (e_lit (sz := 10) (E := 30) (R := R_T_api_Bond) (by_ := 96) tk [(C_api_Bond c_3 (.s 2))] [c_3] (by kernel_rfl) ⟨(clo_T_api_Bond (x := c_3) (Clo.sl (by kernel_rfl))), trivial⟩ rfl (by kernel_rfl) (by kernel_rfl)) (by kernel_rfl) rfl (by kernel_rfl) ?_
                               exact SD.vie D_20 [.g 0, .g 1, .g 2, .g 3, .n, .g 5, .g 6] c_20_4 (by kernel_rfl)
                             · refine SD.lay 12 [I, I, I, O, I, I, O, O, O, O, O, O, O, O, O, O, O] [(0, vs 0), (3, vi .i64 i_4), (97, vs 4), (98, vi .i64 i_4), (101, vs 5)] [.rd 10 R_T_api_Bond l_1, .gone, .rd 2 R_T_api_Subscription c_3.Subs, .blk 30 (C_api_Bond c_3 (.s 2)), .rd 10 R_T_api_Bond x_101, .own 10 30 R_T_api_Bond [c_3]] ?_ (fun c_20_6 => ?_)
                               · refine SD.all1 (i := 3) (by kernel_rfl) ?_
                                 refine SW.eff D_20 (i := 3) (bs' := [I, I, I, I, I, I, O, O, O, O, O, O, O, O, O, O, O]) rfl (.inl rfl) rfl (e_c Tryd.call23 (ok_bonds_Touch F x_101 i_4 _ e_x_261) [.g 4] [vs 4, vi .i64 i_4] (vs 6) (by kernel_rfl) (.inl rfl)) (by kernel_rfl) rfl (by kernel_rfl) ?_
                                 exact SD.vie D_20 [.g 0, .g 1, .g 2, .g 3, .n, .g 6, .g 5] c_20_4 (by kernel_rfl)
                               · refine SD.lay 13 [I, I, I, O, I, O, O, O, O, O, O, O, O, O, O, O, O] [(0, vs 0), (3, vi .i64 i_4), (97, vs 4), (98, vi .i64 i_4), (100, .g (C_api_Bond c_3 (.s 2)))] [.rd 10 R_T_api_Bond l_1, .gone, .rd 2 R_T_api_Subscription c_3.Subs, .blk 30 (C_api_Bond c_3 (.s 2)), .rd 10 R_T_api_Bond x_101] ?_ (fun c_20_7 => ?_)
                                 · refine SD.all2 (i := 3) (j := 5) (by kernel_rfl) ?_ ?_
                                   · refine SW.eff D_20 (i := 3) (bs' := [I, I, I, I, I, O, O, O, O, O, O, O, O, O, O, O, O]) rfl (.inl rfl) rfl (e_c Tryd.call23 (ok_bonds_Touch F x_101 i_4 _ e_x_261) [.g 4] [vs 4, vi .i64 i_4] (vs 5) (by kernel_rfl) (.inl rfl)) (by kernel_rfl) rfl (by kernel_rfl) ?_
                                     exact SD.vie D_20 [.g 0, .g 1, .g 2, .g 3, .n, .g 5] c_20_5 (by kernel_rfl)
                                   · refine SW.eff D_20 (i := 5) (bs' := [I, I, I, O, I, I, O, O, O, O, O, O, O, O, O, O, O]) rfl (.inl rfl) rfl (e_lit (sz := 10) (E := 30) (R := R_T_api_Bond) (by_ := 96) tk [(C_api_Bond c_3 (.s 2))] [c_3] (by kernel_rfl) ⟨(clo_T_api_Bond (x := c_3) (Clo.sl (by kernel_rfl))), trivial⟩ rfl (by kernel_rfl) (by kernel_rfl)) (by kernel_rfl) rfl (by kernel_rfl) ?_
                                     exact SD.vie D_20 [.g 0, .g 1, .g 2, .g 3, .g 4, .g 5] c_20_6 (by kernel_rfl)
                                 · refine SD.lay 13 [I, O, I, O, I, I, O, O, O, O, O, O, O, O, O, O, O] [(0, vs 0), (3, vi .i64 i_4), (96, vs 0), (98, vi .i64 i_4), (101, vs 4)] [.rd 10 R_T_api_Bond l_1, .gone, .rd 2 R_T_api_Subscription c_3.Subs, .blk 30 (C_api_Bond c_3 (.s 2)), .own 10 30 R_T_api_Bond [c_3]] ?_ (fun c_20_8 => ?_)
                                   · refine SD.all1 (i := 1) (by kernel_rfl) ?_
                                     refine SW.eff D_20 (i := 1) (bs' := [I, I, I, O, I, I, O, O, O, O, O, O, O, O, O, O, O]) rfl (.inl rfl) rfl (e_c Tryd.call9 (ok_wirelessref40_Copy F l_1 _ e_x_101) [.g 0] [vs 0] (vs 5) (by kernel_rfl) (.inl rfl)) (by kernel_rfl) rfl (by kernel_rfl) ?_
                                     exact SD.vie D_20 [.g 0, .g 1, .g 2, .g 3, .g 5, .g 4] c_20_6 (by kernel_rfl)
                                   · refine SD.all2 (i := 1) (j := 5) (by kernel_rfl) ?_ ?_
                                     · refine SW.eff D_20 (i := 1) (bs' := [I, I, I, O, I, O, O, O, O, O, O, O, O, O, O, O, O]) rfl (.inl rfl) rfl (e_c Tryd.call9 (ok_wirelessref40_Copy F l_1 _ e_x_101) [.g 0] [vs 0] (vs 4) (by kernel_rfl) (.inl rfl)) (by kernel_rfl) rfl (by kernel_rfl) ?_
                                       exact SD.vie D_20 [.g 0, .g 1, .g 2, .g 3, .g 4] c_20_7 (by kernel_rfl)
                                     · refine SW.eff D_20 (i := 5) (bs' := [I, O, I, O, I, I, O, O, O, O, O, O, O, O, O, O, O]) rfl (.inl rfl) rfl (e_lit (sz := 10) (E := 30) (R := R_T_api_Bond) (by_ := 96) tk [(C_api_Bond c_3 (.s 2))] [c_3] (by kernel_rfl) ⟨(clo_T_api_Bond (x := c_3) (Clo.sl (by kernel_rfl))), trivial⟩ rfl (by kernel_rfl) (by kernel_rfl)) (by kernel_rfl) rfl (by kernel_rfl) ?_
                                       exact SD.vie D_20 [.g 0, .g 1, .g 2, .g 3, .g 4] c_20_8 (by kernel_rfl)
                 · rintro a w ⟨l_15, x_16, hp, h⟩
                   refine h.go ?_
                   refine SC.seq ?_
                   refine SC.reg ?_
                   obtain ⟨x_17, e_x_17, hp⟩ := bind_inv hp
                   refine SL.pre (pre_ix (i := 0) (iv := i_4) (sz := 10) (R := R_T_api_Bond) (l := l_1) (by kernel_rfl) rfl e_x_17) ?_
                   refine SL.sim tk 7 [(18, vi .i64 x_16), (110, vs 3), (116, .g (C_api_Address x_17.Peer.Address))] [] [.el 4] [i_4] (by kernel_rfl) ?_
                   obtain ⟨x_18, e_x_18, hp⟩ := bind_inv hp
                   refine SL.eff (e_c Tryd.call27 (ok_wirelesslaw40_key F l_15 x_17.Peer.Address 0 _ e_x_18) [.g 3] [vs 3, .g (C_api_Address x_17.Peer.Address), vi .u64 0] (.u [.inl (cb x_18.1), .inl (cb x_18.2)]) (by kernel_rfl) (.inl rfl)) rfl (by kernel_rfl) ?_
                   refine SL.sim tk 5 [(18, vi .i64 x_16), (19, vb x_18.1)] [] [] [] (by kernel_rfl) ?_
                   refine SL.nilThen ?_
                   refine SC.r tk [(8, vb ((x_16 != 0) || x_18.1))] [] [] [] (by kernel_rfl) ?_
                   obtain rfl := some_inv' hp
                   exact SC.re (js := [.g 0, .g 1, .g 2]) tk (by kernel_rfl)
end V
end Go.Proofs.YtbdhonofhlpdoaaDoor
