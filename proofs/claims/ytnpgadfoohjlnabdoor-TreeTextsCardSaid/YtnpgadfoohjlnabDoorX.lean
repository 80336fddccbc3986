/- Words of this session's beside the print's own: []byte(s) as a row that is read. No condition. -/
import Derived.Test.YtnpgadfoohjlnabDoorWWords
import Derived.Test.YtnpgadfoohjlnabDoorWLast
import Derived.Test.YtnpgadfoohjlnabDoorWTab
import Derived.Test.YtnpgadfoohjlnabDoorWFour
import Derived.Test.YtnpgadfoohjlnabDoorWQPut
import Derived.Test.YtnpgadfoohjlnabDoorWApart
import Derived.Test.YtnpgadfoohjlnabDoorWArr
import Derived.Test.YtnpgadfoohjlnabDoorWZeros
import Derived.Test.YtnpgadfoohjlnabDoorWFoot
import Derived.Test.YtnpgadfoohjlnabDoorWKept
import Derived.Test.YtnpgadfoohjlnabDoorWShare
import Derived.Test.YtnpgadfoohjlnabDoorWN
import Derived.Test.YtnpgadfoohjlnabDoorWFootNe
import Derived.Test.YtnpgadfoohjlnabDoorWAt
import Derived.Test.YtnpgadfoohjlnabDoorWEqStruct
import Derived.Test.YtnpgadfoohjlnabDoorWRepsOne
import Derived.Test.YtnpgadfoohjlnabDoorWInv
import Derived.Test.YtnpgadfoohjlnabDoorWInvWords
import Derived.Test.YtnpgadfoohjlnabDoorWGuard
import Derived.Test.YtnpgadfoohjlnabDoorWNEv
import Derived.Test.YtnpgadfoohjlnabDoorWMore
import Derived.Lib.ConvBytes
import Derived.Lib.SlBytesConst
import Derived.Below
import Derived.WalkKit
namespace Go.Proofs.YtnpgadfoohjlnabDoorW.PrintX
open Go.RowKit Go.Proofs.YtnpgadfoohjlnabDoorW.PrintWords Go.Proofs.YtnpgadfoohjlnabDoorW.PrintLast Go.Proofs.YtnpgadfoohjlnabDoorW.PrintMore
/-! Words of this session's beside the print's own. -/
/-- Which operations of a region have run, as a number's bits. -/
def bl_ (n k : Nat) : Array Bool := ((List.range n).map (fun i => k.testBit i)).toArray
namespace Kd
open Go.Proofs.YtnpgadfoohjlnabDoorW.PrintWords.Kd Go.Proofs.YtnpgadfoohjlnabDoorW.PrintMore.Kd
section
variable {P : Program} {ops : Array Oper} {rest : List Oper} {o : Oper} {a : Act} {Q : Exit → Act → World → Prop} {Kc : Act → World → Prop}
end
end Kd
end Go.Proofs.YtnpgadfoohjlnabDoorW.PrintX
