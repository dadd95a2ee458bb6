import Derived.Test.YtagihjlklbckmaaGreatDoorWInv
import Derived.Test.YtagihjlklbckmaaGreatDoorWFootNe
namespace Go.Proofs.YtagihjlklbckmaaGreatDoorW.PrintWords
open Go.RowKit
end Go.Proofs.YtagihjlklbckmaaGreatDoorW.PrintWords
namespace Go.Proofs.YtagihjlklbckmaaGreatDoorW.PrintLast
section
variable {ops : Array Oper} {a : Act} {o og : Oper} {g : Nat} {t : Tmp} {u : Bool}
end
end Go.Proofs.YtagihjlklbckmaaGreatDoorW.PrintLast
