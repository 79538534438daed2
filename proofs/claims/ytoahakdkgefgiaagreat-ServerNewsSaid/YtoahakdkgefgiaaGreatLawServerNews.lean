/- ServerNews: the plain law, from the facts on its arguments. -/
import Derived.Test.YtoahakdkgefgiaaGreatLawG
import Derived.Test.YtoahakdkgefgiaaGreatLawN
namespace Go.Proofs.YtoahakdkgefgiaaGreat
namespace V
theorem news_top (db:List T_Attribute) (nb:Int×Int×Int) (rb:Bool) (subs:List T_Subscription) (lv:Int) (h:DOk db) (hs:∀s∈subs,SbOk s):wirelesslaw45_ServerNews FF db nb rb subs lv=some true:=news_law db nb rb subs lv h.1 h.2 hs
end V
end Go.Proofs.YtoahakdkgefgiaaGreat
