/- Each argument type opened. -/
import Derived.Test.YtbdhonofhlpdoaaDoorBridge
namespace Go.Proofs.YtbdhonofhlpdoaaDoor
namespace V
open Go.ChangeShapes Go.WideShapes Go.ChangeAt Go.RowKit Go.Deep
theorem own:ownKnob Tryd.prog.godebug=none:=by kernel_rfl
theorem laidOut:laidOutB Tryd.prog=true:=by kernel_rfl
instance:Inhabited T_Address:=⟨⟨default,default⟩⟩
def G_T_Address (c:T_Address):Prop:=(GInt .i64) c.Kind∧(GInt .u64) c.Bits
theorem opens_t24:Opens Tryd.prog 24 2 R_Address G_T_Address:=fun {H enc w fuel cs x} h hw=>by
  obtain⟨hl,hf⟩:=struct_at Tryd.underlying24 h hw
  have hl:cs.length=2:=hl.trans (by kernel_rfl)
  refine ⟨hl,?_⟩
  obtain⟨d0,r0,g0⟩:=struct_field (opens_int Tryd.underlying3) hf 0 0 1 rfl (by kernel_rfl)
  obtain⟨d1,r1,g1⟩:=struct_field (opens_int Tryd.underlying22) hf 1 1 1 rfl (by kernel_rfl)
  obtain⟨c0,c1,rfl⟩:∃c0 c1,cs=[c0,c1]:=by
    clear h hw hf r0 g0 r1 g1
    match cs,hl with
    | [c0,c1],_=>exact⟨c0,c1,rfl⟩
  have e0:c0=Value.int .i64 d0:=one1 (l:=[c0]) (m:=[Value.int .i64 d0]) 0 r0
  have e1:c1=Value.int .u64 d1:=one1 (l:=[c1]) (m:=[Value.int .u64 d1]) 0 r1
  subst e0 e1
  exact⟨⟨d0,d1⟩,rfl,⟨g0,g1⟩⟩
instance:Inhabited T_Identity:=⟨⟨default,default⟩⟩
def G_T_Identity (c:T_Identity):Prop:=G_T_Address c.Address∧(GInt .u64) c.IRK
theorem opens_t27:Opens Tryd.prog 27 3 R_Identity G_T_Identity:=fun {H enc w fuel cs x} h hw=>by
  obtain⟨hl,hf⟩:=struct_at Tryd.underlying27 h hw
  have hl:cs.length=3:=hl.trans (by kernel_rfl)
  refine ⟨hl,?_⟩
  obtain⟨d0,r0,g0⟩:=struct_field opens_t24 hf 0 0 2 rfl (by kernel_rfl)
  obtain⟨d1,r1,g1⟩:=struct_field (opens_int Tryd.underlying25) hf 1 2 1 rfl (by kernel_rfl)
  obtain⟨c0,c1,c2,rfl⟩:∃c0 c1 c2,cs=[c0,c1,c2]:=by
    clear h hw hf r0 g0 r1 g1
    match cs,hl with
    | [c0,c1,c2],_=>exact⟨c0,c1,c2,rfl⟩
  have e0:c0=Value.int .i64 d0.Kind:=one1 (l:=[c0,c1]) (m:=[Value.int .i64 d0.Kind,Value.int .u64 d0.Bits]) 0 r0
  have e1:c1=Value.int .u64 d0.Bits:=one1 (l:=[c0,c1]) (m:=[Value.int .i64 d0.Kind,Value.int .u64 d0.Bits]) 1 r0
  have e2:c2=Value.int .u64 d1:=one1 (l:=[c2]) (m:=[Value.int .u64 d1]) 0 r1
  subst e0 e1 e2
  exact⟨⟨d0,d1⟩,rfl,⟨g0,g1⟩⟩
instance:Inhabited T_Subscription:=⟨⟨default,default⟩⟩
def G_T_Subscription (c:T_Subscription):Prop:=(GInt .u16) c.Handle∧(GInt .i64) c.Bits
theorem opens_t89:Opens Tryd.prog 89 2 R_Subscription G_T_Subscription:=fun {H enc w fuel cs x} h hw=>by
  obtain⟨hl,hf⟩:=struct_at Tryd.underlying89 h hw
  have hl:cs.length=2:=hl.trans (by kernel_rfl)
  refine ⟨hl,?_⟩
  obtain⟨d0,r0,g0⟩:=struct_field (opens_int Tryd.underlying87) hf 0 0 1 rfl (by kernel_rfl)
  obtain⟨d1,r1,g1⟩:=struct_field (opens_int Tryd.underlying3) hf 1 1 1 rfl (by kernel_rfl)
  obtain⟨c0,c1,rfl⟩:∃c0 c1,cs=[c0,c1]:=by
    clear h hw hf r0 g0 r1 g1
    match cs,hl with
    | [c0,c1],_=>exact⟨c0,c1,rfl⟩
  have e0:c0=Value.int .u16 d0:=one1 (l:=[c0]) (m:=[Value.int .u16 d0]) 0 r0
  have e1:c1=Value.int .i64 d1:=one1 (l:=[c1]) (m:=[Value.int .i64 d1]) 0 r1
  subst e0 e1
  exact⟨⟨d0,d1⟩,rfl,⟨g0,g1⟩⟩
theorem opens_sliceB {α:Type} {P:Program} {t e:TypeId} {sz k:Nat} {R:RT α} {G:α→Prop} (ht:P.underlying t=some (.slice e)) (hk:P.bytesOf e=k) (ho:Opens P t 1 (RSl sz R) (GAll G)):Opens P t 1 (RSl sz R) (fun l=>l.length * k≤reachBytes∧GAll G l):=fun {H enc w fuel cs x} h hw=>by
  obtain⟨h1,d,h2,h3⟩:=ho h hw
  refine ⟨h1,d,h2,?_,h3⟩
  obtain⟨A,k',e',_⟩:=h2
  rcases open_slice ht h with ⟨rfl,rfl⟩ | ⟨a,len,cap,m,n,D,Pl,rfl,_,hl,hm,hmm,rfl,hx⟩
  · simp only [List.cons.injEq,Value.slice.injEq,and_true] at e'
    rw [← e'.2.1,Nat.zero_mul]
    exact Nat.zero_le _
  · have hmm:m=cap:=hmm
    subst hmm
    simp only [List.cons.injEq,Value.slice.injEq,and_true] at e'
    have h5:((List.range len).map D++(List.range (m - len)).map fun j=>D (len+j)).length * P.bytesOf e≤reachBytes:=hw _ (by
      simp only [DataW.weights,ht]
      rw [← List.length_append]
      exact List.mem_cons_self ..)
    have h6:((List.range len).map D++(List.range (m - len)).map fun j=>D (len+j)).length=m:=by simp; omega
    rw [h6,hk] at h5
    rw [← e'.2.1]
    exact Nat.le_trans (Nat.mul_le_mul_right _ (by omega)) h5
def GSubs (l:List T_Subscription):Prop:=l.length * 16≤reachBytes∧GAll G_T_Subscription l
theorem opens_t28:Opens Tryd.prog 28 1 (RSl 2 R_Subscription) GSubs:=opens_sliceB Tryd.underlying28 (by kernel_rfl) (opens_slice Tryd.underlying28 (by kernel_rfl) (by kernel_rfl) opens_t89)
instance:Inhabited T_Bond:=⟨⟨default,default,default,default,default,default,default,default⟩⟩
def G_T_Bond (c:T_Bond):Prop:=G_T_Identity c.Peer∧(GInt .u64) c.LTK∧(GInt .u64) c.Mark∧GTop c.Strong∧(GInt .u64) c.Hash∧GTop c.Aware∧GSubs c.Subs∧(GInt .i64) c.Used
theorem opens_t30:Opens Tryd.prog 30 10 R_Bond G_T_Bond:=fun {H enc w fuel cs x} h hw=>by
  obtain⟨hl,hf⟩:=struct_at Tryd.underlying30 h hw
  have hl:cs.length=10:=hl.trans (by kernel_rfl)
  refine ⟨hl,?_⟩
  obtain⟨d0,r0,g0⟩:=struct_field opens_t27 hf 0 0 3 rfl (by kernel_rfl)
  obtain⟨d1,r1,g1⟩:=struct_field (opens_int Tryd.underlying25) hf 1 3 1 rfl (by kernel_rfl)
  obtain⟨d2,r2,g2⟩:=struct_field (opens_int Tryd.underlying22) hf 2 4 1 rfl (by kernel_rfl)
  obtain⟨d3,r3,g3⟩:=struct_field (opens_bool Tryd.underlying4) hf 3 5 1 rfl (by kernel_rfl)
  obtain⟨d4,r4,g4⟩:=struct_field (opens_int Tryd.underlying25) hf 4 6 1 rfl (by kernel_rfl)
  obtain⟨d5,r5,g5⟩:=struct_field (opens_bool Tryd.underlying4) hf 5 7 1 rfl (by kernel_rfl)
  obtain⟨d6,r6,g6⟩:=struct_field opens_t28 hf 6 8 1 rfl (by kernel_rfl)
  obtain⟨d7,r7,g7⟩:=struct_field (opens_int Tryd.underlying3) hf 7 9 1 rfl (by kernel_rfl)
  obtain⟨c0,c1,c2,c3,c4,c5,c6,c7,c8,c9,rfl⟩:∃c0 c1 c2 c3 c4 c5 c6 c7 c8 c9,cs=[c0,c1,c2,c3,c4,c5,c6,c7,c8,c9]:=by
    clear h hw hf r0 g0 r1 g1 r2 g2 r3 g3 r4 g4 r5 g5 r6 g6 r7 g7
    match cs,hl with
    | [c0,c1,c2,c3,c4,c5,c6,c7,c8,c9],_=>exact⟨c0,c1,c2,c3,c4,c5,c6,c7,c8,c9,rfl⟩
  have e0:c0=Value.int .i64 d0.Address.Kind:=one1 (l:=[c0,c1,c2]) (m:=[Value.int .i64 d0.Address.Kind,Value.int .u64 d0.Address.Bits,Value.int .u64 d0.IRK]) 0 r0
  have e1:c1=Value.int .u64 d0.Address.Bits:=one1 (l:=[c0,c1,c2]) (m:=[Value.int .i64 d0.Address.Kind,Value.int .u64 d0.Address.Bits,Value.int .u64 d0.IRK]) 1 r0
  have e2:c2=Value.int .u64 d0.IRK:=one1 (l:=[c0,c1,c2]) (m:=[Value.int .i64 d0.Address.Kind,Value.int .u64 d0.Address.Bits,Value.int .u64 d0.IRK]) 2 r0
  have e3:c3=Value.int .u64 d1:=one1 (l:=[c3]) (m:=[Value.int .u64 d1]) 0 r1
  have e4:c4=Value.int .u64 d2:=one1 (l:=[c4]) (m:=[Value.int .u64 d2]) 0 r2
  have e5:c5=Value.bool d3:=one1 (l:=[c5]) (m:=[Value.bool d3]) 0 r3
  have e6:c6=Value.int .u64 d4:=one1 (l:=[c6]) (m:=[Value.int .u64 d4]) 0 r4
  have e7:c7=Value.bool d5:=one1 (l:=[c7]) (m:=[Value.bool d5]) 0 r5
  obtain⟨A6_0,k6_0,r6,f6_0⟩:=r6
  have e8:c8=Value.slice A6_0 (List.length d6) k6_0:=one1 (l:=[c8]) (m:=[Value.slice A6_0 (List.length d6) k6_0]) 0 r6
  have e9:c9=Value.int .i64 d7:=one1 (l:=[c9]) (m:=[Value.int .i64 d7]) 0 r7
  subst e0 e1 e2 e3 e4 e5 e6 e7 e8 e9
  exact⟨⟨d0,d1,d2,d3,d4,d5,d6,d7⟩,⟨A6_0,k6_0,rfl,f6_0⟩,⟨g0,g1,g2,g3,g4,g5,g6,g7⟩⟩
instance:Inhabited T_wirelesslaw40_Step:=⟨⟨default,default,default,default⟩⟩
def G_T_wirelesslaw40_Step (c:T_wirelesslaw40_Step):Prop:=(GInt .i64) c.Kind∧G_T_Bond c.Bond∧(GInt .i64) c.Index∧(GInt .i64) c.Cut
theorem opens_t76:Opens Tryd.prog 76 13 R_T_wirelesslaw40_Step G_T_wirelesslaw40_Step:=fun {H enc w fuel cs x} h hw=>by
  obtain⟨hl,hf⟩:=struct_at Tryd.underlying76 h hw
  have hl:cs.length=13:=hl.trans (by kernel_rfl)
  refine ⟨hl,?_⟩
  obtain⟨d0,r0,g0⟩:=struct_field (opens_int Tryd.underlying3) hf 0 0 1 rfl (by kernel_rfl)
  obtain⟨d1,r1,g1⟩:=struct_field opens_t30 hf 1 1 10 rfl (by kernel_rfl)
  obtain⟨d2,r2,g2⟩:=struct_field (opens_int Tryd.underlying3) hf 2 11 1 rfl (by kernel_rfl)
  obtain⟨d3,r3,g3⟩:=struct_field (opens_int Tryd.underlying3) hf 3 12 1 rfl (by kernel_rfl)
  obtain⟨c0,c1,c2,c3,c4,c5,c6,c7,c8,c9,c10,c11,c12,rfl⟩:∃c0 c1 c2 c3 c4 c5 c6 c7 c8 c9 c10 c11 c12,cs=[c0,c1,c2,c3,c4,c5,c6,c7,c8,c9,c10,c11,c12]:=by
    clear h hw hf r0 g0 r1 g1 r2 g2 r3 g3
    match cs,hl with
    | [c0,c1,c2,c3,c4,c5,c6,c7,c8,c9,c10,c11,c12],_=>exact⟨c0,c1,c2,c3,c4,c5,c6,c7,c8,c9,c10,c11,c12,rfl⟩
  have e0:c0=Value.int .i64 d0:=one1 (l:=[c0]) (m:=[Value.int .i64 d0]) 0 r0
  obtain⟨A1_8,k1_8,r1,f1_8⟩:=r1
  have e1:c1=Value.int .i64 d1.Peer.Address.Kind:=one1 (l:=[c1,c2,c3,c4,c5,c6,c7,c8,c9,c10]) (m:=[Value.int .i64 d1.Peer.Address.Kind,Value.int .u64 d1.Peer.Address.Bits,Value.int .u64 d1.Peer.IRK,Value.int .u64 d1.LTK,Value.int .u64 d1.Mark,Value.bool d1.Strong,Value.int .u64 d1.Hash,Value.bool d1.Aware,Value.slice A1_8 (List.length d1.Subs) k1_8,Value.int .i64 d1.Used]) 0 r1
  have e2:c2=Value.int .u64 d1.Peer.Address.Bits:=one1 (l:=[c1,c2,c3,c4,c5,c6,c7,c8,c9,c10]) (m:=[Value.int .i64 d1.Peer.Address.Kind,Value.int .u64 d1.Peer.Address.Bits,Value.int .u64 d1.Peer.IRK,Value.int .u64 d1.LTK,Value.int .u64 d1.Mark,Value.bool d1.Strong,Value.int .u64 d1.Hash,Value.bool d1.Aware,Value.slice A1_8 (List.length d1.Subs) k1_8,Value.int .i64 d1.Used]) 1 r1
  have e3:c3=Value.int .u64 d1.Peer.IRK:=one1 (l:=[c1,c2,c3,c4,c5,c6,c7,c8,c9,c10]) (m:=[Value.int .i64 d1.Peer.Address.Kind,Value.int .u64 d1.Peer.Address.Bits,Value.int .u64 d1.Peer.IRK,Value.int .u64 d1.LTK,Value.int .u64 d1.Mark,Value.bool d1.Strong,Value.int .u64 d1.Hash,Value.bool d1.Aware,Value.slice A1_8 (List.length d1.Subs) k1_8,Value.int .i64 d1.Used]) 2 r1
  have e4:c4=Value.int .u64 d1.LTK:=one1 (l:=[c1,c2,c3,c4,c5,c6,c7,c8,c9,c10]) (m:=[Value.int .i64 d1.Peer.Address.Kind,Value.int .u64 d1.Peer.Address.Bits,Value.int .u64 d1.Peer.IRK,Value.int .u64 d1.LTK,Value.int .u64 d1.Mark,Value.bool d1.Strong,Value.int .u64 d1.Hash,Value.bool d1.Aware,Value.slice A1_8 (List.length d1.Subs) k1_8,Value.int .i64 d1.Used]) 3 r1
  have e5:c5=Value.int .u64 d1.Mark:=one1 (l:=[c1,c2,c3,c4,c5,c6,c7,c8,c9,c10]) (m:=[Value.int .i64 d1.Peer.Address.Kind,Value.int .u64 d1.Peer.Address.Bits,Value.int .u64 d1.Peer.IRK,Value.int .u64 d1.LTK,Value.int .u64 d1.Mark,Value.bool d1.Strong,Value.int .u64 d1.Hash,Value.bool d1.Aware,Value.slice A1_8 (List.length d1.Subs) k1_8,Value.int .i64 d1.Used]) 4 r1
  have e6:c6=Value.bool d1.Strong:=one1 (l:=[c1,c2,c3,c4,c5,c6,c7,c8,c9,c10]) (m:=[Value.int .i64 d1.Peer.Address.Kind,Value.int .u64 d1.Peer.Address.Bits,Value.int .u64 d1.Peer.IRK,Value.int .u64 d1.LTK,Value.int .u64 d1.Mark,Value.bool d1.Strong,Value.int .u64 d1.Hash,Value.bool d1.Aware,Value.slice A1_8 (List.length d1.Subs) k1_8,Value.int .i64 d1.Used]) 5 r1
  have e7:c7=Value.int .u64 d1.Hash:=one1 (l:=[c1,c2,c3,c4,c5,c6,c7,c8,c9,c10]) (m:=[Value.int .i64 d1.Peer.Address.Kind,Value.int .u64 d1.Peer.Address.Bits,Value.int .u64 d1.Peer.IRK,Value.int .u64 d1.LTK,Value.int .u64 d1.Mark,Value.bool d1.Strong,Value.int .u64 d1.Hash,Value.bool d1.Aware,Value.slice A1_8 (List.length d1.Subs) k1_8,Value.int .i64 d1.Used]) 6 r1
  have e8:c8=Value.bool d1.Aware:=one1 (l:=[c1,c2,c3,c4,c5,c6,c7,c8,c9,c10]) (m:=[Value.int .i64 d1.Peer.Address.Kind,Value.int .u64 d1.Peer.Address.Bits,Value.int .u64 d1.Peer.IRK,Value.int .u64 d1.LTK,Value.int .u64 d1.Mark,Value.bool d1.Strong,Value.int .u64 d1.Hash,Value.bool d1.Aware,Value.slice A1_8 (List.length d1.Subs) k1_8,Value.int .i64 d1.Used]) 7 r1
  have e9:c9=Value.slice A1_8 (List.length d1.Subs) k1_8:=one1 (l:=[c1,c2,c3,c4,c5,c6,c7,c8,c9,c10]) (m:=[Value.int .i64 d1.Peer.Address.Kind,Value.int .u64 d1.Peer.Address.Bits,Value.int .u64 d1.Peer.IRK,Value.int .u64 d1.LTK,Value.int .u64 d1.Mark,Value.bool d1.Strong,Value.int .u64 d1.Hash,Value.bool d1.Aware,Value.slice A1_8 (List.length d1.Subs) k1_8,Value.int .i64 d1.Used]) 8 r1
  have e10:c10=Value.int .i64 d1.Used:=one1 (l:=[c1,c2,c3,c4,c5,c6,c7,c8,c9,c10]) (m:=[Value.int .i64 d1.Peer.Address.Kind,Value.int .u64 d1.Peer.Address.Bits,Value.int .u64 d1.Peer.IRK,Value.int .u64 d1.LTK,Value.int .u64 d1.Mark,Value.bool d1.Strong,Value.int .u64 d1.Hash,Value.bool d1.Aware,Value.slice A1_8 (List.length d1.Subs) k1_8,Value.int .i64 d1.Used]) 9 r1
  have e11:c11=Value.int .i64 d2:=one1 (l:=[c11]) (m:=[Value.int .i64 d2]) 0 r2
  have e12:c12=Value.int .i64 d3:=one1 (l:=[c12]) (m:=[Value.int .i64 d3]) 0 r3
  subst e0 e1 e2 e3 e4 e5 e6 e7 e8 e9 e10 e11 e12
  exact⟨⟨d0,d1,d2,d3⟩,⟨A1_8,k1_8,rfl,f1_8⟩,⟨g0,g1,g2,g3⟩⟩
theorem opens_t73:Opens Tryd.prog 73 1 (RSl 13 R_T_wirelesslaw40_Step) (GAll G_T_wirelesslaw40_Step):=opens_slice Tryd.underlying73 (by kernel_rfl) (by kernel_rfl) opens_t76
end V
end Go.Proofs.YtbdhonofhlpdoaaDoor
