/- Each argument type opened. -/
import Derived.Test.YtoahakdkgefgiaaGreatArrO
namespace Go.Proofs.YtoahakdkgefgiaaGreat
namespace V
open Go.ChangeShapes Go.WideShapes Go.ChangeAt Go.RowKit Go.Deep
theorem own:ownKnob Tryz.prog.godebug=none:=by kernel_rfl
theorem laidOut:laidOutB Tryz.prog=true:=by kernel_rfl
instance:Inhabited Tx0:=⟨⟨default,default⟩⟩
def Gx0 (c:Tx0):Prop:=(GInt .u64) c.High∧(GInt .u64) c.Low
theorem opens_t43:Opens Tryz.prog 43 2 Rx0 Gx0:=fun {H enc w fuel cs x} h hw=>by
  obtain⟨hl,hf⟩:=struct_at Tryz.underlying43 h hw
  have hl:cs.length=2:=hl.trans (by kernel_rfl)
  refine ⟨hl,?_⟩
  obtain⟨d0,r0,g0⟩:=struct_field (opens_int Tryz.underlying35) hf 0 0 1 rfl (by kernel_rfl)
  obtain⟨d1,r1,g1⟩:=struct_field (opens_int Tryz.underlying35) hf 1 1 1 rfl (by kernel_rfl)
  obtain⟨c0,c1,rfl⟩:∃c0 c1,cs=[c0,c1]:=by
    clear h hw hf r0 g0 r1 g1
    match cs,hl with
    | [c0,c1],_=>exact⟨c0,c1,rfl⟩
  have e0:c0=Value.int .u64 d0:=one1 (l:=[c0]) (m:=[Value.int .u64 d0]) 0 r0
  have e1:c1=Value.int .u64 d1:=one1 (l:=[c1]) (m:=[Value.int .u64 d1]) 0 r1
  subst e0 e1
  exact⟨⟨d0,d1⟩,rfl,⟨g0,g1⟩⟩
theorem opens_t44:Opens Tryz.prog 44 1 (RSl 1 R8) (GAll (GInt .u8)):=opens_slice Tryz.underlying44 (by kernel_rfl) (by kernel_rfl) (opens_int Tryz.underlying5)
instance:Inhabited Tx1:=⟨⟨default,default,default,default⟩⟩
def Gx1 (c:Tx1):Prop:=(GInt .u16) c.Handle∧Gx0 c.fT∧(GInt .i64) c.Perms∧(GAll (GInt .u8)) c.Value
theorem opens_t56:Opens Tryz.prog 56 5 Rx1 Gx1:=fun {H enc w fuel cs x} h hw=>by
  obtain⟨hl,hf⟩:=struct_at Tryz.underlying56 h hw
  have hl:cs.length=5:=hl.trans (by kernel_rfl)
  refine ⟨hl,?_⟩
  obtain⟨d0,r0,g0⟩:=struct_field (opens_int Tryz.underlying41) hf 0 0 1 rfl (by kernel_rfl)
  obtain⟨d1,r1,g1⟩:=struct_field opens_t43 hf 1 1 2 rfl (by kernel_rfl)
  obtain⟨d2,r2,g2⟩:=struct_field (opens_int Tryz.underlying3) hf 2 3 1 rfl (by kernel_rfl)
  obtain⟨d3,r3,g3⟩:=struct_field opens_t44 hf 3 4 1 rfl (by kernel_rfl)
  obtain⟨c0,c1,c2,c3,c4,rfl⟩:∃c0 c1 c2 c3 c4,cs=[c0,c1,c2,c3,c4]:=by
    clear h hw hf r0 g0 r1 g1 r2 g2 r3 g3
    match cs,hl with
    | [c0,c1,c2,c3,c4],_=>exact⟨c0,c1,c2,c3,c4,rfl⟩
  have e0:c0=Value.int .u16 d0:=one1 (l:=[c0]) (m:=[Value.int .u16 d0]) 0 r0
  have e1:c1=Value.int .u64 d1.High:=one1 (l:=[c1,c2]) (m:=[Value.int .u64 d1.High,Value.int .u64 d1.Low]) 0 r1
  have e2:c2=Value.int .u64 d1.Low:=one1 (l:=[c1,c2]) (m:=[Value.int .u64 d1.High,Value.int .u64 d1.Low]) 1 r1
  have e3:c3=Value.int .i64 d2:=one1 (l:=[c3]) (m:=[Value.int .i64 d2]) 0 r2
  obtain⟨A3_0,k3_0,r3,f3_0⟩:=r3
  have e4:c4=Value.slice A3_0 (List.length d3) k3_0:=one1 (l:=[c4]) (m:=[Value.slice A3_0 (List.length d3) k3_0]) 0 r3
  subst e0 e1 e2 e3 e4
  exact⟨⟨d0,d1,d2,d3⟩,⟨A3_0,k3_0,rfl,f3_0⟩,⟨g0,g1,g2,g3⟩⟩
theorem opens_t22:Opens Tryz.prog 22 1 (RSl 5 Rx1) (GAll Gx1):=opens_slice Tryz.underlying22 (by kernel_rfl) (by kernel_rfl) opens_t56
def RA_23:RT ((List Tx1)×(List Tx1)):=fun U w cs x=>∃(A0:Option Addr) (k0:Nat) (A1:Option Addr) (k1:Nat),cs=[.slice A0 (List.length x.1) k0,.slice A1 (List.length x.2) k1]∧Sl 5 Rx1 U w A0 k0 x.1∧Sl 5 Rx1 U w A1 k1 x.2
def GA_23 (x:((List Tx1)×(List Tx1))):Prop:=(GAll Gx1) x.1∧(GAll Gx1) x.2
theorem opens_t23:Opens Tryz.prog 23 2 RA_23 GA_23:=fun {H enc w fuel cs x} h hw=>by
  obtain⟨hl,hf⟩:=array_at Tryz.underlying23 h hw
  have hl:cs.length=2:=hl.trans (by kernel_rfl)
  obtain⟨d0,r0,g0⟩:=array_elem opens_t22 hf 0 0 1 (by decide) (by kernel_rfl) rfl
  obtain⟨d1,r1,g1⟩:=array_elem opens_t22 hf 1 1 1 (by decide) (by kernel_rfl) rfl
  clear h hw hf
  match cs,hl with
  | [c0,c1],_=>
    obtain⟨A0,k0,s0,f0⟩:=r0
    have e0:c0=Value.slice A0 (List.length d0) k0:=one1 (l:=[c0]) (m:=[Value.slice A0 (List.length d0) k0]) 0 s0
    obtain⟨A1,k1,s1,f1⟩:=r1
    have e1:c1=Value.slice A1 (List.length d1) k1:=one1 (l:=[c1]) (m:=[Value.slice A1 (List.length d1) k1]) 0 s1
    subst e0 e1
    exact⟨rfl,⟨d0,d1⟩,⟨A0,k0,A1,k1,rfl,f0,f1⟩,g0,g1⟩
instance:Inhabited Tx2:=⟨⟨default,default⟩⟩
def Gx2 (c:Tx2):Prop:=(GInt .u16) c.Handle∧(GInt .i64) c.Bits
theorem opens_t83:Opens Tryz.prog 83 2 Rx2 Gx2:=fun {H enc w fuel cs x} h hw=>by
  obtain⟨hl,hf⟩:=struct_at Tryz.underlying83 h hw
  have hl:cs.length=2:=hl.trans (by kernel_rfl)
  refine ⟨hl,?_⟩
  obtain⟨d0,r0,g0⟩:=struct_field (opens_int Tryz.underlying41) hf 0 0 1 rfl (by kernel_rfl)
  obtain⟨d1,r1,g1⟩:=struct_field (opens_int Tryz.underlying3) hf 1 1 1 rfl (by kernel_rfl)
  obtain⟨c0,c1,rfl⟩:∃c0 c1,cs=[c0,c1]:=by
    clear h hw hf r0 g0 r1 g1
    match cs,hl with
    | [c0,c1],_=>exact⟨c0,c1,rfl⟩
  have e0:c0=Value.int .u16 d0:=one1 (l:=[c0]) (m:=[Value.int .u16 d0]) 0 r0
  have e1:c1=Value.int .i64 d1:=one1 (l:=[c1]) (m:=[Value.int .i64 d1]) 0 r1
  subst e0 e1
  exact⟨⟨d0,d1⟩,rfl,⟨g0,g1⟩⟩
theorem opens_t24:Opens Tryz.prog 24 1 (RSl 2 Rx2) (GAll Gx2):=opens_slice Tryz.underlying24 (by kernel_rfl) (by kernel_rfl) opens_t83
instance:Inhabited Tx3:=⟨⟨default,default,default,default⟩⟩
def Gx3 (c:Tx3):Prop:=(GInt .u16) c.Handle∧(GInt .u16) c.Last∧Gx0 c.fT∧(GAll (GInt .u8)) c.Value
theorem opens_t111:Opens Tryz.prog 111 5 Rx3 Gx3:=fun {H enc w fuel cs x} h hw=>by
  obtain⟨hl,hf⟩:=struct_at Tryz.underlying111 h hw
  have hl:cs.length=5:=hl.trans (by kernel_rfl)
  refine ⟨hl,?_⟩
  obtain⟨d0,r0,g0⟩:=struct_field (opens_int Tryz.underlying41) hf 0 0 1 rfl (by kernel_rfl)
  obtain⟨d1,r1,g1⟩:=struct_field (opens_int Tryz.underlying41) hf 1 1 1 rfl (by kernel_rfl)
  obtain⟨d2,r2,g2⟩:=struct_field opens_t43 hf 2 2 2 rfl (by kernel_rfl)
  obtain⟨d3,r3,g3⟩:=struct_field opens_t44 hf 3 4 1 rfl (by kernel_rfl)
  obtain⟨c0,c1,c2,c3,c4,rfl⟩:∃c0 c1 c2 c3 c4,cs=[c0,c1,c2,c3,c4]:=by
    clear h hw hf r0 g0 r1 g1 r2 g2 r3 g3
    match cs,hl with
    | [c0,c1,c2,c3,c4],_=>exact⟨c0,c1,c2,c3,c4,rfl⟩
  have e0:c0=Value.int .u16 d0:=one1 (l:=[c0]) (m:=[Value.int .u16 d0]) 0 r0
  have e1:c1=Value.int .u16 d1:=one1 (l:=[c1]) (m:=[Value.int .u16 d1]) 0 r1
  have e2:c2=Value.int .u64 d2.High:=one1 (l:=[c2,c3]) (m:=[Value.int .u64 d2.High,Value.int .u64 d2.Low]) 0 r2
  have e3:c3=Value.int .u64 d2.Low:=one1 (l:=[c2,c3]) (m:=[Value.int .u64 d2.High,Value.int .u64 d2.Low]) 1 r2
  obtain⟨A3_0,k3_0,r3,f3_0⟩:=r3
  have e4:c4=Value.slice A3_0 (List.length d3) k3_0:=one1 (l:=[c4]) (m:=[Value.slice A3_0 (List.length d3) k3_0]) 0 r3
  subst e0 e1 e2 e3 e4
  exact⟨⟨d0,d1,d2,d3⟩,⟨A3_0,k3_0,rfl,f3_0⟩,⟨g0,g1,g2,g3⟩⟩
theorem opens_t45:Opens Tryz.prog 45 1 (RSl 5 Rx3) (GAll Gx3):=opens_slice Tryz.underlying45 (by kernel_rfl) (by kernel_rfl) opens_t111
instance:Inhabited Tx4:=⟨⟨default,default,default,default,default,default,default,default,default,default,default⟩⟩
def Gx4 (c:Tx4):Prop:=(GInt .i64) c.Kind∧(GInt .i64) c.Asked∧(GInt .u16) c.Handle∧(GInt .u16) c.Last∧Gx0 c.fT∧(GInt .i64) c.Offset∧(GInt .i64) c.MTU∧(GInt .i64) c.Code∧GTop c.Commit∧(GAll (GInt .u8)) c.Value∧(GAll Gx3) c.List
theorem opens_t47:Opens Tryz.prog 47 12 Rx4 Gx4:=fun {H enc w fuel cs x} h hw=>by
  obtain⟨hl,hf⟩:=struct_at Tryz.underlying47 h hw
  have hl:cs.length=12:=hl.trans (by kernel_rfl)
  refine ⟨hl,?_⟩
  obtain⟨d0,r0,g0⟩:=struct_field (opens_int Tryz.underlying3) hf 0 0 1 rfl (by kernel_rfl)
  obtain⟨d1,r1,g1⟩:=struct_field (opens_int Tryz.underlying3) hf 1 1 1 rfl (by kernel_rfl)
  obtain⟨d2,r2,g2⟩:=struct_field (opens_int Tryz.underlying41) hf 2 2 1 rfl (by kernel_rfl)
  obtain⟨d3,r3,g3⟩:=struct_field (opens_int Tryz.underlying41) hf 3 3 1 rfl (by kernel_rfl)
  obtain⟨d4,r4,g4⟩:=struct_field opens_t43 hf 4 4 2 rfl (by kernel_rfl)
  obtain⟨d5,r5,g5⟩:=struct_field (opens_int Tryz.underlying3) hf 5 6 1 rfl (by kernel_rfl)
  obtain⟨d6,r6,g6⟩:=struct_field (opens_int Tryz.underlying3) hf 6 7 1 rfl (by kernel_rfl)
  obtain⟨d7,r7,g7⟩:=struct_field (opens_int Tryz.underlying3) hf 7 8 1 rfl (by kernel_rfl)
  obtain⟨d8,r8,g8⟩:=struct_field (opens_bool Tryz.underlying4) hf 8 9 1 rfl (by kernel_rfl)
  obtain⟨d9,r9,g9⟩:=struct_field opens_t44 hf 9 10 1 rfl (by kernel_rfl)
  obtain⟨d10,r10,g10⟩:=struct_field opens_t45 hf 10 11 1 rfl (by kernel_rfl)
  obtain⟨c0,c1,c2,c3,c4,c5,c6,c7,c8,c9,c10,c11,rfl⟩:∃c0 c1 c2 c3 c4 c5 c6 c7 c8 c9 c10 c11,cs=[c0,c1,c2,c3,c4,c5,c6,c7,c8,c9,c10,c11]:=by
    clear h hw hf r0 g0 r1 g1 r2 g2 r3 g3 r4 g4 r5 g5 r6 g6 r7 g7 r8 g8 r9 g9 r10 g10
    match cs,hl with
    | [c0,c1,c2,c3,c4,c5,c6,c7,c8,c9,c10,c11],_=>exact⟨c0,c1,c2,c3,c4,c5,c6,c7,c8,c9,c10,c11,rfl⟩
  have e0:c0=Value.int .i64 d0:=one1 (l:=[c0]) (m:=[Value.int .i64 d0]) 0 r0
  have e1:c1=Value.int .i64 d1:=one1 (l:=[c1]) (m:=[Value.int .i64 d1]) 0 r1
  have e2:c2=Value.int .u16 d2:=one1 (l:=[c2]) (m:=[Value.int .u16 d2]) 0 r2
  have e3:c3=Value.int .u16 d3:=one1 (l:=[c3]) (m:=[Value.int .u16 d3]) 0 r3
  have e4:c4=Value.int .u64 d4.High:=one1 (l:=[c4,c5]) (m:=[Value.int .u64 d4.High,Value.int .u64 d4.Low]) 0 r4
  have e5:c5=Value.int .u64 d4.Low:=one1 (l:=[c4,c5]) (m:=[Value.int .u64 d4.High,Value.int .u64 d4.Low]) 1 r4
  have e6:c6=Value.int .i64 d5:=one1 (l:=[c6]) (m:=[Value.int .i64 d5]) 0 r5
  have e7:c7=Value.int .i64 d6:=one1 (l:=[c7]) (m:=[Value.int .i64 d6]) 0 r6
  have e8:c8=Value.int .i64 d7:=one1 (l:=[c8]) (m:=[Value.int .i64 d7]) 0 r7
  have e9:c9=Value.bool d8:=one1 (l:=[c9]) (m:=[Value.bool d8]) 0 r8
  obtain⟨A9_0,k9_0,r9,f9_0⟩:=r9
  have e10:c10=Value.slice A9_0 (List.length d9) k9_0:=one1 (l:=[c10]) (m:=[Value.slice A9_0 (List.length d9) k9_0]) 0 r9
  obtain⟨A10_0,k10_0,r10,f10_0⟩:=r10
  have e11:c11=Value.slice A10_0 (List.length d10) k10_0:=one1 (l:=[c11]) (m:=[Value.slice A10_0 (List.length d10) k10_0]) 0 r10
  subst e0 e1 e2 e3 e4 e5 e6 e7 e8 e9 e10 e11
  exact⟨⟨d0,d1,d2,d3,d4,d5,d6,d7,d8,d9,d10⟩,⟨A9_0,k9_0,A10_0,k10_0,rfl,f9_0,f10_0⟩,⟨g0,g1,g2,g3,g4,g5,g6,g7,g8,g9,g10⟩⟩
instance:Inhabited Tx5:=⟨⟨default,default,default,default,default,default,default⟩⟩
def Gx5 (c:Tx5):Prop:=(GInt .u8) c.Call∧Gx4 c.PDU∧(GInt .u16) c.Handle∧(GAll (GInt .u8)) c.Value∧(GInt .u8) c.Other∧(GInt .i64) c.Level∧(GInt .u32) c.Pause
theorem opens_t78:Opens Tryz.prog 78 18 Rx5 Gx5:=fun {H enc w fuel cs x} h hw=>by
  obtain⟨hl,hf⟩:=struct_at Tryz.underlying78 h hw
  have hl:cs.length=18:=hl.trans (by kernel_rfl)
  refine ⟨hl,?_⟩
  obtain⟨d0,r0,g0⟩:=struct_field (opens_int Tryz.underlying5) hf 0 0 1 rfl (by kernel_rfl)
  obtain⟨d1,r1,g1⟩:=struct_field opens_t47 hf 1 1 12 rfl (by kernel_rfl)
  obtain⟨d2,r2,g2⟩:=struct_field (opens_int Tryz.underlying41) hf 2 13 1 rfl (by kernel_rfl)
  obtain⟨d3,r3,g3⟩:=struct_field opens_t44 hf 3 14 1 rfl (by kernel_rfl)
  obtain⟨d4,r4,g4⟩:=struct_field (opens_int Tryz.underlying5) hf 4 15 1 rfl (by kernel_rfl)
  obtain⟨d5,r5,g5⟩:=struct_field (opens_int Tryz.underlying3) hf 5 16 1 rfl (by kernel_rfl)
  obtain⟨d6,r6,g6⟩:=struct_field (opens_int Tryz.underlying76) hf 6 17 1 rfl (by kernel_rfl)
  obtain⟨c0,c1,c2,c3,c4,c5,c6,c7,c8,c9,c10,c11,c12,c13,c14,c15,c16,c17,rfl⟩:∃c0 c1 c2 c3 c4 c5 c6 c7 c8 c9 c10 c11 c12 c13 c14 c15 c16 c17,cs=[c0,c1,c2,c3,c4,c5,c6,c7,c8,c9,c10,c11,c12,c13,c14,c15,c16,c17]:=by
    clear h hw hf r0 g0 r1 g1 r2 g2 r3 g3 r4 g4 r5 g5 r6 g6
    match cs,hl with
    | [c0,c1,c2,c3,c4,c5,c6,c7,c8,c9,c10,c11,c12,c13,c14,c15,c16,c17],_=>exact⟨c0,c1,c2,c3,c4,c5,c6,c7,c8,c9,c10,c11,c12,c13,c14,c15,c16,c17,rfl⟩
  have e0:c0=Value.int .u8 d0:=one1 (l:=[c0]) (m:=[Value.int .u8 d0]) 0 r0
  obtain⟨A1_10,k1_10,A1_11,k1_11,r1,f1_10,f1_11⟩:=r1
  have e1:c1=Value.int .i64 d1.Kind:=one1 (l:=[c1,c2,c3,c4,c5,c6,c7,c8,c9,c10,c11,c12]) (m:=[Value.int .i64 d1.Kind,Value.int .i64 d1.Asked,Value.int .u16 d1.Handle,Value.int .u16 d1.Last,Value.int .u64 d1.fT.High,Value.int .u64 d1.fT.Low,Value.int .i64 d1.Offset,Value.int .i64 d1.MTU,Value.int .i64 d1.Code,Value.bool d1.Commit,Value.slice A1_10 (List.length d1.Value) k1_10,Value.slice A1_11 (List.length d1.List) k1_11]) 0 r1
  have e2:c2=Value.int .i64 d1.Asked:=one1 (l:=[c1,c2,c3,c4,c5,c6,c7,c8,c9,c10,c11,c12]) (m:=[Value.int .i64 d1.Kind,Value.int .i64 d1.Asked,Value.int .u16 d1.Handle,Value.int .u16 d1.Last,Value.int .u64 d1.fT.High,Value.int .u64 d1.fT.Low,Value.int .i64 d1.Offset,Value.int .i64 d1.MTU,Value.int .i64 d1.Code,Value.bool d1.Commit,Value.slice A1_10 (List.length d1.Value) k1_10,Value.slice A1_11 (List.length d1.List) k1_11]) 1 r1
  have e3:c3=Value.int .u16 d1.Handle:=one1 (l:=[c1,c2,c3,c4,c5,c6,c7,c8,c9,c10,c11,c12]) (m:=[Value.int .i64 d1.Kind,Value.int .i64 d1.Asked,Value.int .u16 d1.Handle,Value.int .u16 d1.Last,Value.int .u64 d1.fT.High,Value.int .u64 d1.fT.Low,Value.int .i64 d1.Offset,Value.int .i64 d1.MTU,Value.int .i64 d1.Code,Value.bool d1.Commit,Value.slice A1_10 (List.length d1.Value) k1_10,Value.slice A1_11 (List.length d1.List) k1_11]) 2 r1
  have e4:c4=Value.int .u16 d1.Last:=one1 (l:=[c1,c2,c3,c4,c5,c6,c7,c8,c9,c10,c11,c12]) (m:=[Value.int .i64 d1.Kind,Value.int .i64 d1.Asked,Value.int .u16 d1.Handle,Value.int .u16 d1.Last,Value.int .u64 d1.fT.High,Value.int .u64 d1.fT.Low,Value.int .i64 d1.Offset,Value.int .i64 d1.MTU,Value.int .i64 d1.Code,Value.bool d1.Commit,Value.slice A1_10 (List.length d1.Value) k1_10,Value.slice A1_11 (List.length d1.List) k1_11]) 3 r1
  have e5:c5=Value.int .u64 d1.fT.High:=one1 (l:=[c1,c2,c3,c4,c5,c6,c7,c8,c9,c10,c11,c12]) (m:=[Value.int .i64 d1.Kind,Value.int .i64 d1.Asked,Value.int .u16 d1.Handle,Value.int .u16 d1.Last,Value.int .u64 d1.fT.High,Value.int .u64 d1.fT.Low,Value.int .i64 d1.Offset,Value.int .i64 d1.MTU,Value.int .i64 d1.Code,Value.bool d1.Commit,Value.slice A1_10 (List.length d1.Value) k1_10,Value.slice A1_11 (List.length d1.List) k1_11]) 4 r1
  have e6:c6=Value.int .u64 d1.fT.Low:=one1 (l:=[c1,c2,c3,c4,c5,c6,c7,c8,c9,c10,c11,c12]) (m:=[Value.int .i64 d1.Kind,Value.int .i64 d1.Asked,Value.int .u16 d1.Handle,Value.int .u16 d1.Last,Value.int .u64 d1.fT.High,Value.int .u64 d1.fT.Low,Value.int .i64 d1.Offset,Value.int .i64 d1.MTU,Value.int .i64 d1.Code,Value.bool d1.Commit,Value.slice A1_10 (List.length d1.Value) k1_10,Value.slice A1_11 (List.length d1.List) k1_11]) 5 r1
  have e7:c7=Value.int .i64 d1.Offset:=one1 (l:=[c1,c2,c3,c4,c5,c6,c7,c8,c9,c10,c11,c12]) (m:=[Value.int .i64 d1.Kind,Value.int .i64 d1.Asked,Value.int .u16 d1.Handle,Value.int .u16 d1.Last,Value.int .u64 d1.fT.High,Value.int .u64 d1.fT.Low,Value.int .i64 d1.Offset,Value.int .i64 d1.MTU,Value.int .i64 d1.Code,Value.bool d1.Commit,Value.slice A1_10 (List.length d1.Value) k1_10,Value.slice A1_11 (List.length d1.List) k1_11]) 6 r1
  have e8:c8=Value.int .i64 d1.MTU:=one1 (l:=[c1,c2,c3,c4,c5,c6,c7,c8,c9,c10,c11,c12]) (m:=[Value.int .i64 d1.Kind,Value.int .i64 d1.Asked,Value.int .u16 d1.Handle,Value.int .u16 d1.Last,Value.int .u64 d1.fT.High,Value.int .u64 d1.fT.Low,Value.int .i64 d1.Offset,Value.int .i64 d1.MTU,Value.int .i64 d1.Code,Value.bool d1.Commit,Value.slice A1_10 (List.length d1.Value) k1_10,Value.slice A1_11 (List.length d1.List) k1_11]) 7 r1
  have e9:c9=Value.int .i64 d1.Code:=one1 (l:=[c1,c2,c3,c4,c5,c6,c7,c8,c9,c10,c11,c12]) (m:=[Value.int .i64 d1.Kind,Value.int .i64 d1.Asked,Value.int .u16 d1.Handle,Value.int .u16 d1.Last,Value.int .u64 d1.fT.High,Value.int .u64 d1.fT.Low,Value.int .i64 d1.Offset,Value.int .i64 d1.MTU,Value.int .i64 d1.Code,Value.bool d1.Commit,Value.slice A1_10 (List.length d1.Value) k1_10,Value.slice A1_11 (List.length d1.List) k1_11]) 8 r1
  have e10:c10=Value.bool d1.Commit:=one1 (l:=[c1,c2,c3,c4,c5,c6,c7,c8,c9,c10,c11,c12]) (m:=[Value.int .i64 d1.Kind,Value.int .i64 d1.Asked,Value.int .u16 d1.Handle,Value.int .u16 d1.Last,Value.int .u64 d1.fT.High,Value.int .u64 d1.fT.Low,Value.int .i64 d1.Offset,Value.int .i64 d1.MTU,Value.int .i64 d1.Code,Value.bool d1.Commit,Value.slice A1_10 (List.length d1.Value) k1_10,Value.slice A1_11 (List.length d1.List) k1_11]) 9 r1
  have e11:c11=Value.slice A1_10 (List.length d1.Value) k1_10:=one1 (l:=[c1,c2,c3,c4,c5,c6,c7,c8,c9,c10,c11,c12]) (m:=[Value.int .i64 d1.Kind,Value.int .i64 d1.Asked,Value.int .u16 d1.Handle,Value.int .u16 d1.Last,Value.int .u64 d1.fT.High,Value.int .u64 d1.fT.Low,Value.int .i64 d1.Offset,Value.int .i64 d1.MTU,Value.int .i64 d1.Code,Value.bool d1.Commit,Value.slice A1_10 (List.length d1.Value) k1_10,Value.slice A1_11 (List.length d1.List) k1_11]) 10 r1
  have e12:c12=Value.slice A1_11 (List.length d1.List) k1_11:=one1 (l:=[c1,c2,c3,c4,c5,c6,c7,c8,c9,c10,c11,c12]) (m:=[Value.int .i64 d1.Kind,Value.int .i64 d1.Asked,Value.int .u16 d1.Handle,Value.int .u16 d1.Last,Value.int .u64 d1.fT.High,Value.int .u64 d1.fT.Low,Value.int .i64 d1.Offset,Value.int .i64 d1.MTU,Value.int .i64 d1.Code,Value.bool d1.Commit,Value.slice A1_10 (List.length d1.Value) k1_10,Value.slice A1_11 (List.length d1.List) k1_11]) 11 r1
  have e13:c13=Value.int .u16 d2:=one1 (l:=[c13]) (m:=[Value.int .u16 d2]) 0 r2
  obtain⟨A3_0,k3_0,r3,f3_0⟩:=r3
  have e14:c14=Value.slice A3_0 (List.length d3) k3_0:=one1 (l:=[c14]) (m:=[Value.slice A3_0 (List.length d3) k3_0]) 0 r3
  have e15:c15=Value.int .u8 d4:=one1 (l:=[c15]) (m:=[Value.int .u8 d4]) 0 r4
  have e16:c16=Value.int .i64 d5:=one1 (l:=[c16]) (m:=[Value.int .i64 d5]) 0 r5
  have e17:c17=Value.int .u32 d6:=one1 (l:=[c17]) (m:=[Value.int .u32 d6]) 0 r6
  subst e0 e1 e2 e3 e4 e5 e6 e7 e8 e9 e10 e11 e12 e13 e14 e15 e16 e17
  exact⟨⟨d0,d1,d2,d3,d4,d5,d6⟩,⟨A1_10,k1_10,A1_11,k1_11,A3_0,k3_0,rfl,f1_10,f1_11,f3_0⟩,⟨g0,g1,g2,g3,g4,g5,g6⟩⟩
theorem opens_t72:Opens Tryz.prog 72 1 (RSl 18 Rx5) (GAll Gx5):=opens_slice Tryz.underlying72 (by kernel_rfl) (by kernel_rfl) opens_t78
instance:Inhabited Tx6:=⟨⟨default,default,default,default,default,default,default⟩⟩
def Gx6 (c:Tx6):Prop:=GA_23 c.DBs∧(GInt .i64) c.Max∧(GInt .i64) c.Level∧(GInt .i64) c.Aware∧GTop c.Robust∧(GAll Gx2) c.Subs∧(GAll Gx5) c.Steps
theorem opens_t74:Opens Tryz.prog 74 8 Rx6 Gx6:=fun {H enc w fuel cs x} h hw=>by
  obtain⟨hl,hf⟩:=struct_at Tryz.underlying74 h hw
  have hl:cs.length=8:=hl.trans (by kernel_rfl)
  refine ⟨hl,?_⟩
  obtain⟨d0,r0,g0⟩:=struct_field opens_t23 hf 0 0 2 rfl (by kernel_rfl)
  obtain⟨d1,r1,g1⟩:=struct_field (opens_int Tryz.underlying3) hf 1 2 1 rfl (by kernel_rfl)
  obtain⟨d2,r2,g2⟩:=struct_field (opens_int Tryz.underlying3) hf 2 3 1 rfl (by kernel_rfl)
  obtain⟨d3,r3,g3⟩:=struct_field (opens_int Tryz.underlying3) hf 3 4 1 rfl (by kernel_rfl)
  obtain⟨d4,r4,g4⟩:=struct_field (opens_bool Tryz.underlying4) hf 4 5 1 rfl (by kernel_rfl)
  obtain⟨d5,r5,g5⟩:=struct_field opens_t24 hf 5 6 1 rfl (by kernel_rfl)
  obtain⟨d6,r6,g6⟩:=struct_field opens_t72 hf 6 7 1 rfl (by kernel_rfl)
  obtain⟨c0,c1,c2,c3,c4,c5,c6,c7,rfl⟩:∃c0 c1 c2 c3 c4 c5 c6 c7,cs=[c0,c1,c2,c3,c4,c5,c6,c7]:=by
    clear h hw hf r0 g0 r1 g1 r2 g2 r3 g3 r4 g4 r5 g5 r6 g6
    match cs,hl with
    | [c0,c1,c2,c3,c4,c5,c6,c7],_=>exact⟨c0,c1,c2,c3,c4,c5,c6,c7,rfl⟩
  obtain⟨A0_0,k0_0,A0_1,k0_1,r0,f0_0,f0_1⟩:=r0
  have e0:c0=Value.slice A0_0 (List.length d0.1) k0_0:=one1 (l:=[c0,c1]) (m:=[Value.slice A0_0 (List.length d0.1) k0_0,Value.slice A0_1 (List.length d0.2) k0_1]) 0 r0
  have e1:c1=Value.slice A0_1 (List.length d0.2) k0_1:=one1 (l:=[c0,c1]) (m:=[Value.slice A0_0 (List.length d0.1) k0_0,Value.slice A0_1 (List.length d0.2) k0_1]) 1 r0
  have e2:c2=Value.int .i64 d1:=one1 (l:=[c2]) (m:=[Value.int .i64 d1]) 0 r1
  have e3:c3=Value.int .i64 d2:=one1 (l:=[c3]) (m:=[Value.int .i64 d2]) 0 r2
  have e4:c4=Value.int .i64 d3:=one1 (l:=[c4]) (m:=[Value.int .i64 d3]) 0 r3
  have e5:c5=Value.bool d4:=one1 (l:=[c5]) (m:=[Value.bool d4]) 0 r4
  obtain⟨A5_0,k5_0,r5,f5_0⟩:=r5
  have e6:c6=Value.slice A5_0 (List.length d5) k5_0:=one1 (l:=[c6]) (m:=[Value.slice A5_0 (List.length d5) k5_0]) 0 r5
  obtain⟨A6_0,k6_0,r6,f6_0⟩:=r6
  have e7:c7=Value.slice A6_0 (List.length d6) k6_0:=one1 (l:=[c7]) (m:=[Value.slice A6_0 (List.length d6) k6_0]) 0 r6
  subst e0 e1 e2 e3 e4 e5 e6 e7
  exact⟨⟨d0,d1,d2,d3,d4,d5,d6⟩,⟨A0_0,k0_0,A0_1,k0_1,A5_0,k5_0,A6_0,k6_0,rfl,f0_0,f0_1,f5_0,f6_0⟩,⟨g0,g1,g2,g3,g4,g5,g6⟩⟩
end V
end Go.Proofs.YtoahakdkgefgiaaGreat
