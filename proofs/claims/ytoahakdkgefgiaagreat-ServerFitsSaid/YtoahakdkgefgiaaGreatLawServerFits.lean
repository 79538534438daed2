/- ServerFits: the plain law, from the facts on its arguments. -/
import Derived.Test.YtoahakdkgefgiaaGreatLawG
namespace Go.Proofs.YtoahakdkgefgiaaGreat
namespace V
theorem fits_top (db:List Tx1) (mx lv:Int) (l:List Tx3) (h:DOk db) (hp:∀p∈l,POk p):q2w FF db mx lv l=some true:=fits_law db mx lv l h.1 h.2 hp
end V
end Go.Proofs.YtoahakdkgefgiaaGreat
