/- MuxPlays: the plain law, from the facts on its argument. -/
import Derived.Test.YtbgfhaahhdnogaaGreatOpen
import Derived.Test.YtbgfhaahhdnogaaGreatLawN
namespace Go.Proofs.YtbgfhaahhdnogaaGreat
namespace V
theorem gu16{x:Int}(h:iV .u16 x):0≤x∧x≤65535:=by
 have h1:IntKind.u16.min=0:=rfl
 have h2:IntKind.u16.max=65535:=rfl
 unfold iV at h
 rw[h1,h2]at h
 omega
theorem gu8{x:Int}(h:iV .u8 x):Byte x:=by
 have h1:IntKind.u8.min=0:=rfl
 have h2:IntKind.u8.max=255:=rfl
 unfold iV at h
 rw[h1,h2]at h
 unfold Byte
 omega
theorem TP{S:DV}(h:Gx4 S):∀s∈S.Steps,yg s:=fun s hs=>⟨gu16 (h.2.2.2 s hs).2.1,fun x hx=>gu8 ((h.2.2.2 s hs).2.2.2.2.2.2.2.2.2.2.2.2.2 x hx)⟩
theorem Ik(S:DV)(h2:∀s∈S.Steps,yg s):Wm FF S=some true:=Il S h2
end V
end Go.Proofs.YtbgfhaahhdnogaaGreat
