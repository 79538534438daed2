/- What the facts on arguments say. -/
import Derived.Test.YtoahakdkgefgiaaGreatOpen
import Derived.Test.YtoahakdkgefgiaaGreatLawN
namespace Go.Proofs.YtoahakdkgefgiaaGreat
namespace V
def DOk (db:List Tx1):Prop:=(∀a∈db,AOk a)∧db.length≤140737488355328
theorem glen {α:Type} {G:α→Prop} {l:List α} (h:GAll G l):l.length≤140737488355328:=Nat.le_trans h.1 (by unfold reachBytes; decide)
theorem gbytes {b:List Int} (h:GAll (GInt .u8) b):∀x∈b,Byte x:=by
  have h1:IntKind.u8.min=0:=rfl
  have h2:IntKind.u8.max=255:=rfl
  intro x hx
  have:=h.2 x hx
  unfold GInt at this
  rw [h1,h2] at this
  exact⟨this.1,by omega⟩
theorem gu16 {x:Int} (h:GInt .u16 x):0≤x∧x<65536:=by
  have h1:IntKind.u16.min=0:=rfl
  have h2:IntKind.u16.max=65535:=rfl
  unfold GInt at h
  rw [h1,h2] at h
  omega
theorem gu64 {x:Int} (h:GInt .u64 x):0≤x∧x<18446744073709551616:=by
  have h1:IntKind.u64.min=0:=rfl
  have h2:IntKind.u64.max=18446744073709551615:=rfl
  unfold GInt at h
  rw [h1,h2] at h
  omega
theorem guuid {u:Tx0} (h:Gx0 u):UOk u:=⟨(gu64 h.1).1,(gu64 h.1).2,(gu64 h.2).1,(gu64 h.2).2⟩
theorem gattr {a:Tx1} (h:Gx1 a):AOk a:=⟨(gu16 h.1).1,(gu16 h.1).2,guuid h.2.1,gbytes h.2.2.2,glen h.2.2.2⟩
theorem gdb {l:List Tx1} (h:GAll Gx1 l):DOk l:=⟨fun a ha=>gattr (h.2 a ha),glen h⟩
theorem gitem {x:Tx2} (h:Gx2 x):IOk x:=⟨(gu16 h.1).1,(gu16 h.1).2,(gu16 h.2.1).1,(gu16 h.2.1).2,guuid h.2.2.1,Nat.le_trans h.2.2.2.1 (by unfold reachBytes; decide)⟩
theorem gpdu {p:Tx3} (h:Gx3 p):POk p:=⟨glen h.2.2.2.2.2.2.2.2.2.2,fun x hx=>gitem (h.2.2.2.2.2.2.2.2.2.2.2 x hx),(gu16 h.2.2.1).1,(gu16 h.2.2.1).2,guuid h.2.2.2.2.1,glen h.2.2.2.2.2.2.2.2.2.1,gbytes h.2.2.2.2.2.2.2.2.2.1⟩
theorem gpdus {l:List Tx3} (h:GAll Gx3 l):∀p∈l,POk p:=fun p hp=>gpdu (h.2 p hp)
end V
end Go.Proofs.YtoahakdkgefgiaaGreat
