/- Words of this session's beside the print's own: []byte(s) as a row that is read. No condition. -/
import Derived.Test.YtnpgadfoohjlnaaDoorWWords
import Derived.Test.YtnpgadfoohjlnaaDoorWLast
import Derived.Test.YtnpgadfoohjlnaaDoorWTab
import Derived.Test.YtnpgadfoohjlnaaDoorWFour
import Derived.Test.YtnpgadfoohjlnaaDoorWQPut
import Derived.Test.YtnpgadfoohjlnaaDoorWApart
import Derived.Test.YtnpgadfoohjlnaaDoorWArr
import Derived.Test.YtnpgadfoohjlnaaDoorWZeros
import Derived.Test.YtnpgadfoohjlnaaDoorWFoot
import Derived.Test.YtnpgadfoohjlnaaDoorWKept
import Derived.Test.YtnpgadfoohjlnaaDoorWShare
import Derived.Test.YtnpgadfoohjlnaaDoorWN
import Derived.Test.YtnpgadfoohjlnaaDoorWFootNe
import Derived.Test.YtnpgadfoohjlnaaDoorWAt
import Derived.Test.YtnpgadfoohjlnaaDoorWEqStruct
import Derived.Test.YtnpgadfoohjlnaaDoorWRepsOne
import Derived.Test.YtnpgadfoohjlnaaDoorWInv
import Derived.Test.YtnpgadfoohjlnaaDoorWInvWords
import Derived.Test.YtnpgadfoohjlnaaDoorWGuard
import Derived.Test.YtnpgadfoohjlnaaDoorWNEv
import Derived.Test.YtnpgadfoohjlnaaDoorWMore
import Derived.Lib.ConvBytes
import Derived.Lib.SlBytesConst
import Derived.Below
import Derived.WalkKit
namespace Go.Proofs.YtnpgadfoohjlnaaDoorW.PrintX
open Go.RowKit Go.Proofs.YtnpgadfoohjlnaaDoorW.PrintWords Go.Proofs.YtnpgadfoohjlnaaDoorW.PrintLast Go.Proofs.YtnpgadfoohjlnaaDoorW.PrintMore
/-! Words of this session's beside the print's own. -/
/-- Which operations of a region have run, as a number's bits. -/
def bl_ (n k : Nat) : Array Bool := ((List.range n).map (fun i => k.testBit i)).toArray
namespace Kd
open Go.Proofs.YtnpgadfoohjlnaaDoorW.PrintWords.Kd Go.Proofs.YtnpgadfoohjlnaaDoorW.PrintMore.Kd
section
variable {P : Program} {ops : Array Oper} {rest : List Oper} {o : Oper} {a : Act} {Q : Exit → Act → World → Prop} {Kc : Act → World → Prop}
end
end Kd
end Go.Proofs.YtnpgadfoohjlnaaDoorW.PrintX
