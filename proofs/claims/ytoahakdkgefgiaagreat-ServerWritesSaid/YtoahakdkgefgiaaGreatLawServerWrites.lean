/- ServerWrites: the plain law, from the facts on its arguments -/
import Derived.Test.YtoahakdkgefgiaaGreatLawG
namespace Go.Proofs.YtoahakdkgefgiaaGreat
namespace V
theorem writes_top (db:List Tx1) (n:Int) (v:List Int) (m:Int) (lg:Bool) (h:DOk db) (hn:0≤n∧n<256):q25 FF db n v m lg=some true:=writes_law db n v m lg h.1 h.2 hn.1 hn.2
end V
end Go.Proofs.YtoahakdkgefgiaaGreat
