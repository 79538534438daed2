/- Each argument type opened. -/
import Derived.Test.YtbdhonofhlpdoaaGreatDoorArrO
namespace Go.Proofs.YtbdhonofhlpdoaaGreatDoor
namespace V
open Go.ChangeShapes Go.WideShapes Go.ChangeAt Go.RowKit Go.Deep
theorem own:ownKnob Tryz.prog.godebug=none:=by kernel_rfl
theorem laidOut:laidOutB Tryz.prog=true:=by kernel_rfl
theorem opens_t22:Opens Tryz.prog 22 1 (RSl 1 R8) (GAll (GInt .u8)):=opens_slice Tryz.underlying22 (by kernel_rfl) (by kernel_rfl) (opens_int Tryz.underlying5)
def RA_23:RT ((List Int)×(List Int)):=fun U w cs x=>∃(A0:Option Addr) (k0:Nat) (A1:Option Addr) (k1:Nat),cs=[.slice A0 (List.length x.1) k0,.slice A1 (List.length x.2) k1]∧Sl 1 R8 U w A0 k0 x.1∧Sl 1 R8 U w A1 k1 x.2
def GA_23 (x:((List Int)×(List Int))):Prop:=(GAll (GInt .u8)) x.1∧(GAll (GInt .u8)) x.2
theorem opens_t23:Opens Tryz.prog 23 2 RA_23 GA_23:=fun {H enc w fuel cs x} h hw=>by
  obtain⟨hl,hf⟩:=array_at Tryz.underlying23 h hw
  have hl:cs.length=2:=hl.trans (by kernel_rfl)
  obtain⟨d0,r0,g0⟩:=array_elem opens_t22 hf 0 0 1 (by decide) (by kernel_rfl) rfl
  obtain⟨d1,r1,g1⟩:=array_elem opens_t22 hf 1 1 1 (by decide) (by kernel_rfl) rfl
  clear h hw hf
  match cs,hl with
  | [c0,c1],_=>
    obtain⟨A0,k0,s0,f0⟩:=r0
    have e0:c0=Value.slice A0 (List.length d0) k0:=one1 (l:=[c0]) (m:=[Value.slice A0 (List.length d0) k0]) 0 s0
    obtain⟨A1,k1,s1,f1⟩:=r1
    have e1:c1=Value.slice A1 (List.length d1) k1:=one1 (l:=[c1]) (m:=[Value.slice A1 (List.length d1) k1]) 0 s1
    subst e0 e1
    exact⟨rfl,⟨d0,d1⟩,⟨A0,k0,A1,k1,rfl,f0,f1⟩,g0,g1⟩
instance:Inhabited T_Flash:=⟨⟨default⟩⟩
def G_T_Flash (c:T_Flash):Prop:=GA_23 c.Banks
theorem opens_t25:Opens Tryz.prog 25 2 R_Flash G_T_Flash:=fun {H enc w fuel cs x} h hw=>by
  obtain⟨hl,hf⟩:=struct_at Tryz.underlying25 h hw
  have hl:cs.length=2:=hl.trans (by kernel_rfl)
  refine ⟨hl,?_⟩
  obtain⟨d0,r0,g0⟩:=struct_field opens_t23 hf 0 0 2 rfl (by kernel_rfl)
  obtain⟨c0,c1,rfl⟩:∃c0 c1,cs=[c0,c1]:=by
    clear h hw hf r0 g0
    match cs,hl with
    | [c0,c1],_=>exact⟨c0,c1,rfl⟩
  obtain⟨A0_0,k0_0,A0_1,k0_1,r0,f0_0,f0_1⟩:=r0
  have e0:c0=Value.slice A0_0 (List.length d0.1) k0_0:=one1 (l:=[c0,c1]) (m:=[Value.slice A0_0 (List.length d0.1) k0_0,Value.slice A0_1 (List.length d0.2) k0_1]) 0 r0
  have e1:c1=Value.slice A0_1 (List.length d0.2) k0_1:=one1 (l:=[c0,c1]) (m:=[Value.slice A0_0 (List.length d0.1) k0_0,Value.slice A0_1 (List.length d0.2) k0_1]) 1 r0
  subst e0 e1
  exact⟨⟨d0⟩,⟨A0_0,k0_0,A0_1,k0_1,rfl,f0_0,f0_1⟩,g0⟩
instance:Inhabited T_Address:=⟨⟨default,default⟩⟩
def G_T_Address (c:T_Address):Prop:=(GInt .i64) c.Kind∧(GInt .u64) c.Bits
theorem opens_t30:Opens Tryz.prog 30 2 R_Address G_T_Address:=fun {H enc w fuel cs x} h hw=>by
  obtain⟨hl,hf⟩:=struct_at Tryz.underlying30 h hw
  have hl:cs.length=2:=hl.trans (by kernel_rfl)
  refine ⟨hl,?_⟩
  obtain⟨d0,r0,g0⟩:=struct_field (opens_int Tryz.underlying3) hf 0 0 1 rfl (by kernel_rfl)
  obtain⟨d1,r1,g1⟩:=struct_field (opens_int Tryz.underlying28) hf 1 1 1 rfl (by kernel_rfl)
  obtain⟨c0,c1,rfl⟩:∃c0 c1,cs=[c0,c1]:=by
    clear h hw hf r0 g0 r1 g1
    match cs,hl with
    | [c0,c1],_=>exact⟨c0,c1,rfl⟩
  have e0:c0=Value.int .i64 d0:=one1 (l:=[c0]) (m:=[Value.int .i64 d0]) 0 r0
  have e1:c1=Value.int .u64 d1:=one1 (l:=[c1]) (m:=[Value.int .u64 d1]) 0 r1
  subst e0 e1
  exact⟨⟨d0,d1⟩,rfl,⟨g0,g1⟩⟩
instance:Inhabited T_Identity:=⟨⟨default,default⟩⟩
def G_T_Identity (c:T_Identity):Prop:=G_T_Address c.Address∧(GInt .u64) c.IRK
theorem opens_t33:Opens Tryz.prog 33 3 R_Identity G_T_Identity:=fun {H enc w fuel cs x} h hw=>by
  obtain⟨hl,hf⟩:=struct_at Tryz.underlying33 h hw
  have hl:cs.length=3:=hl.trans (by kernel_rfl)
  refine ⟨hl,?_⟩
  obtain⟨d0,r0,g0⟩:=struct_field opens_t30 hf 0 0 2 rfl (by kernel_rfl)
  obtain⟨d1,r1,g1⟩:=struct_field (opens_int Tryz.underlying31) hf 1 2 1 rfl (by kernel_rfl)
  obtain⟨c0,c1,c2,rfl⟩:∃c0 c1 c2,cs=[c0,c1,c2]:=by
    clear h hw hf r0 g0 r1 g1
    match cs,hl with
    | [c0,c1,c2],_=>exact⟨c0,c1,c2,rfl⟩
  have e0:c0=Value.int .i64 d0.Kind:=one1 (l:=[c0,c1]) (m:=[Value.int .i64 d0.Kind,Value.int .u64 d0.Bits]) 0 r0
  have e1:c1=Value.int .u64 d0.Bits:=one1 (l:=[c0,c1]) (m:=[Value.int .i64 d0.Kind,Value.int .u64 d0.Bits]) 1 r0
  have e2:c2=Value.int .u64 d1:=one1 (l:=[c2]) (m:=[Value.int .u64 d1]) 0 r1
  subst e0 e1 e2
  exact⟨⟨d0,d1⟩,rfl,⟨g0,g1⟩⟩
instance:Inhabited T_Subscription:=⟨⟨default,default⟩⟩
def G_T_Subscription (c:T_Subscription):Prop:=(GInt .u16) c.Handle∧(GInt .i64) c.Bits
theorem opens_t90:Opens Tryz.prog 90 2 R_Subscription G_T_Subscription:=fun {H enc w fuel cs x} h hw=>by
  obtain⟨hl,hf⟩:=struct_at Tryz.underlying90 h hw
  have hl:cs.length=2:=hl.trans (by kernel_rfl)
  refine ⟨hl,?_⟩
  obtain⟨d0,r0,g0⟩:=struct_field (opens_int Tryz.underlying72) hf 0 0 1 rfl (by kernel_rfl)
  obtain⟨d1,r1,g1⟩:=struct_field (opens_int Tryz.underlying3) hf 1 1 1 rfl (by kernel_rfl)
  obtain⟨c0,c1,rfl⟩:∃c0 c1,cs=[c0,c1]:=by
    clear h hw hf r0 g0 r1 g1
    match cs,hl with
    | [c0,c1],_=>exact⟨c0,c1,rfl⟩
  have e0:c0=Value.int .u16 d0:=one1 (l:=[c0]) (m:=[Value.int .u16 d0]) 0 r0
  have e1:c1=Value.int .i64 d1:=one1 (l:=[c1]) (m:=[Value.int .i64 d1]) 0 r1
  subst e0 e1
  exact⟨⟨d0,d1⟩,rfl,⟨g0,g1⟩⟩
theorem opens_t34:Opens Tryz.prog 34 1 (RSl 2 R_Subscription) (GAll G_T_Subscription):=opens_slice Tryz.underlying34 (by kernel_rfl) (by kernel_rfl) opens_t90
instance:Inhabited T_Bond:=⟨⟨default,default,default,default,default,default,default,default⟩⟩
def G_T_Bond (c:T_Bond):Prop:=G_T_Identity c.Peer∧(GInt .u64) c.LTK∧(GInt .u64) c.Mark∧GTop c.Strong∧(GInt .u64) c.Hash∧GTop c.Aware∧(GAll G_T_Subscription) c.Subs∧(GInt .i64) c.Used
theorem opens_t36:Opens Tryz.prog 36 10 R_Bond G_T_Bond:=fun {H enc w fuel cs x} h hw=>by
  obtain⟨hl,hf⟩:=struct_at Tryz.underlying36 h hw
  have hl:cs.length=10:=hl.trans (by kernel_rfl)
  refine ⟨hl,?_⟩
  obtain⟨d0,r0,g0⟩:=struct_field opens_t33 hf 0 0 3 rfl (by kernel_rfl)
  obtain⟨d1,r1,g1⟩:=struct_field (opens_int Tryz.underlying31) hf 1 3 1 rfl (by kernel_rfl)
  obtain⟨d2,r2,g2⟩:=struct_field (opens_int Tryz.underlying28) hf 2 4 1 rfl (by kernel_rfl)
  obtain⟨d3,r3,g3⟩:=struct_field (opens_bool Tryz.underlying4) hf 3 5 1 rfl (by kernel_rfl)
  obtain⟨d4,r4,g4⟩:=struct_field (opens_int Tryz.underlying31) hf 4 6 1 rfl (by kernel_rfl)
  obtain⟨d5,r5,g5⟩:=struct_field (opens_bool Tryz.underlying4) hf 5 7 1 rfl (by kernel_rfl)
  obtain⟨d6,r6,g6⟩:=struct_field opens_t34 hf 6 8 1 rfl (by kernel_rfl)
  obtain⟨d7,r7,g7⟩:=struct_field (opens_int Tryz.underlying3) hf 7 9 1 rfl (by kernel_rfl)
  obtain⟨c0,c1,c2,c3,c4,c5,c6,c7,c8,c9,rfl⟩:∃c0 c1 c2 c3 c4 c5 c6 c7 c8 c9,cs=[c0,c1,c2,c3,c4,c5,c6,c7,c8,c9]:=by
    clear h hw hf r0 g0 r1 g1 r2 g2 r3 g3 r4 g4 r5 g5 r6 g6 r7 g7
    match cs,hl with
    | [c0,c1,c2,c3,c4,c5,c6,c7,c8,c9],_=>exact⟨c0,c1,c2,c3,c4,c5,c6,c7,c8,c9,rfl⟩
  have e0:c0=Value.int .i64 d0.Address.Kind:=one1 (l:=[c0,c1,c2]) (m:=[Value.int .i64 d0.Address.Kind,Value.int .u64 d0.Address.Bits,Value.int .u64 d0.IRK]) 0 r0
  have e1:c1=Value.int .u64 d0.Address.Bits:=one1 (l:=[c0,c1,c2]) (m:=[Value.int .i64 d0.Address.Kind,Value.int .u64 d0.Address.Bits,Value.int .u64 d0.IRK]) 1 r0
  have e2:c2=Value.int .u64 d0.IRK:=one1 (l:=[c0,c1,c2]) (m:=[Value.int .i64 d0.Address.Kind,Value.int .u64 d0.Address.Bits,Value.int .u64 d0.IRK]) 2 r0
  have e3:c3=Value.int .u64 d1:=one1 (l:=[c3]) (m:=[Value.int .u64 d1]) 0 r1
  have e4:c4=Value.int .u64 d2:=one1 (l:=[c4]) (m:=[Value.int .u64 d2]) 0 r2
  have e5:c5=Value.bool d3:=one1 (l:=[c5]) (m:=[Value.bool d3]) 0 r3
  have e6:c6=Value.int .u64 d4:=one1 (l:=[c6]) (m:=[Value.int .u64 d4]) 0 r4
  have e7:c7=Value.bool d5:=one1 (l:=[c7]) (m:=[Value.bool d5]) 0 r5
  obtain⟨A6_0,k6_0,r6,f6_0⟩:=r6
  have e8:c8=Value.slice A6_0 (List.length d6) k6_0:=one1 (l:=[c8]) (m:=[Value.slice A6_0 (List.length d6) k6_0]) 0 r6
  have e9:c9=Value.int .i64 d7:=one1 (l:=[c9]) (m:=[Value.int .i64 d7]) 0 r7
  subst e0 e1 e2 e3 e4 e5 e6 e7 e8 e9
  exact⟨⟨d0,d1,d2,d3,d4,d5,d6,d7⟩,⟨A6_0,k6_0,rfl,f6_0⟩,⟨g0,g1,g2,g3,g4,g5,g6,g7⟩⟩
theorem opens_t26:Opens Tryz.prog 26 1 (RSl 10 R_Bond) (GAll G_T_Bond):=opens_slice Tryz.underlying26 (by kernel_rfl) (by kernel_rfl) opens_t36
end V
end Go.Proofs.YtbdhonofhlpdoaaGreatDoor
