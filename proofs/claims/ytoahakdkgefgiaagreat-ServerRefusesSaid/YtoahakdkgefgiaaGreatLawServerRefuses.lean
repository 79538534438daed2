/- ServerRefuses: the plain law, from the facts on its argument -/
import Derived.Test.YtoahakdkgefgiaaGreatLawG
namespace Go.Proofs.YtoahakdkgefgiaaGreat
namespace V
theorem refuses_top (dbs:List T_Attribute×List T_Attribute) (subs:List T_Subscription) (l:List T_AttPDU) (h:DOk dbs.1∧DOk dbs.2) (hp:∀p∈l,POk p):wirelesslaw45_ServerRefuses FF dbs subs l=some true:=refuses_law dbs subs l h.1.1 h.2.1 h.1.2 h.2.2 hp
end V
end Go.Proofs.YtoahakdkgefgiaaGreat
