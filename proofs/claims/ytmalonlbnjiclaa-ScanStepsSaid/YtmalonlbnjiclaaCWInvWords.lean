-- Cut by shake.py (what this claim does not use is dropped) from a text that was PRINTED BY print.sh 35421559b90ae4d0a3588c463048766b98c2df88dd9212a6774a882060cdf62d: not written by this session
import Derived.Test.YtmalonlbnjiclaaCWInv
import Derived.Test.YtmalonlbnjiclaaCWFootNe
namespace Go.Proofs.YtmalonlbnjiclaaW.PrintWords
open Go.RowKit
end Go.Proofs.YtmalonlbnjiclaaW.PrintWords
namespace Go.Proofs.YtmalonlbnjiclaaW.PrintLast
section
variable {ops : Array Oper} {a : Act} {o og : Oper} {g : Nat} {t : Tmp} {u : Bool}
end
end Go.Proofs.YtmalonlbnjiclaaW.PrintLast
