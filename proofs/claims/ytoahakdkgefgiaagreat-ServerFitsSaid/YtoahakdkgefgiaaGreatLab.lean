/- Labels; elements of an array at an index that is known to be -/
import Derived.Test.YtoahakdkgefgiaaGreatFld
import Derived.Scope
namespace Go.Proofs.YtoahakdkgefgiaaGreat
namespace V
section
variable {P:Program} {Kn:Act→World→Prop} {Ke:Nat→Act→World→Prop} {Kr:Act→World→Prop} {N n0:Nat} {fx:Fx} {env:Env'} {its:List Item} {tt:TT}
theorem SD.all4 {ops:Array Oper} {ks bs:List Bool} {itsK:List Item} {κ1:List Conc} {fuel i j k m:Nat} (hr:Region.ready .any ops bs.toArray=[i,j,k,m]) (h:SW P ops Kn ks itsK κ1 fuel bs N n0 fx env its i) (h2:SW P ops Kn ks itsK κ1 fuel bs N n0 fx env its j) (h3:SW P ops Kn ks itsK κ1 fuel bs N n0 fx env its k) (h4:SW P ops Kn ks itsK κ1 fuel bs N n0 fx env its m):SD P ops Kn ks itsK κ1 (fuel+1) bs N n0 fx env its:=fun κx w S a ha=>
  wpAnyH_all hr (by simp) fun q hq=>by
    rcases List.mem_cons.1 hq with rfl | hq
    · exact h κx w S a ha
    rcases List.mem_cons.1 hq with rfl | hq
    · exact h2 κx w S a ha
    rcases List.mem_cons.1 hq with rfl | hq
    · exact h3 κx w S a ha
    · rw [List.mem_singleton] at hq
      subst hq
      exact h4 κx w S a ha
end
end V
end Go.Proofs.YtoahakdkgefgiaaGreat
