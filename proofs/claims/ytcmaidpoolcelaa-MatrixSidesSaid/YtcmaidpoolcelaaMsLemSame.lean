/- Lists held against each other: the document's comparisons say yes of what is the same. -/
import Derived.Test.YtcmaidpoolcelaaMsPx0
import Derived.Test.YtcmaidpoolcelaaMsNum
namespace Go.Proofs.Ytcmaidpoolcelaa.Lem
open Go.RowKit Go.Proofs.Ytcmaidpoolcelaa.P Go.Proofs.Ytcmaidpoolcelaa.Num Go.Proofs.YtcmaidpoolcelaaW.PrintWords Go.Proofs.YtcmaidpoolcelaaW.PrintMore
set_option linter.unusedVariables false

end Go.Proofs.Ytcmaidpoolcelaa.Lem
