/- MuxChannels: the plain law, from the facts on its argument. -/
import Derived.Test.YtbgfhaahhdnogaaGreatOpen
import Derived.Test.YtbgfhaahhdnogaaGreatLawM
namespace Go.Proofs.YtbgfhaahhdnogaaGreat
namespace V
theorem gu16{x:Int}(h:kZ .u16 x):0<=x/\x<=65535:=by
 have h1:IntKind.u16.min=0:=rfl;have h2:IntKind.u16.max=65535:=rfl;unfold kZ at h;rw[h1,h2]at h;omega
theorem gu8{x:Int}(h:kZ .u8 x):Byte x:=by
 have h1:IntKind.u8.min=0:=rfl;have h2:IntKind.u8.max=255:=rfl;unfold kZ at h;rw[h1,h2]at h;unfold Byte;omega
theorem agp{S:vH}(h:Gx3 S):Sy.OP S:=fun x hx=>by
 have a:=h.2.2.2 x hx;have a1:=gu8 a.1;have a3:=gu8 a.2.2.1;unfold Byte at a1 a3;exact⟨by omega,by omega,(gu16 a.2.2.2.2.1).1,gu16 a.2.2.2.1,fun b hb=>gu8 (a.2.2.2.2.2.2.2.2.1.2 b hb)⟩
theorem Ir(S:vH)(h2:Sy.OP S):q3y FF S=some true:=Iu S h2
end V
end Go.Proofs.YtbgfhaahhdnogaaGreat
