/- MuxNews: the plain law. -/
import Derived.Test.YtbgfhaahhdnogaaGreatLawN
namespace Go.Proofs.YtbgfhaahhdnogaaGreat
namespace V
theorem news_top (role:Int) (l:List Tx0) (level:Int):q15 FF role l level=some true:=news_law role l level
end V
end Go.Proofs.YtbgfhaahhdnogaaGreat
