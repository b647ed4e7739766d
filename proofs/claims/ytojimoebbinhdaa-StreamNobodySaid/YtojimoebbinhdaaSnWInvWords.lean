-- PRINTED BY print.sh 35421559b90ae4d0a3588c463048766b98c2df88dd9212a6774a882060cdf62d: not written by this session
import Derived.Test.YtojimoebbinhdaaSnWInv
import Derived.Test.YtojimoebbinhdaaSnWFootNe
namespace Go.Proofs.YtojimoebbinhdaaW.PrintWords
open Go.RowKit
end Go.Proofs.YtojimoebbinhdaaW.PrintWords
namespace Go.Proofs.YtojimoebbinhdaaW.PrintLast
section
variable {ops : Array Oper} {a : Act} {o og : Oper} {g : Nat} {t : Tmp} {u : Bool}
end
end Go.Proofs.YtojimoebbinhdaaW.PrintLast
