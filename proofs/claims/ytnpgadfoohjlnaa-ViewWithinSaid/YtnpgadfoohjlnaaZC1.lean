/- Errors' codes and places, plain. No condition beyond what each lemma says. -/
import Derived.Test.YtnpgadfoohjlnaaU0
import Derived.Test.YtnpgadfoohjlnaaQV0
import Derived.Lib.Strings
namespace Go.Proofs.Ytnpgadfoohjlnaa.Plain
open Go.RowKit Go.Proofs.YtnpgadfoohjlnaaW.PrintWords Go.Proofs.YtnpgadfoohjlnaaW.PrintLast Go.Proofs.YtnpgadfoohjlnaaW.PrintMore Go.Proofs.Ytnpgadfoohjlnaa.QV

/-- The number of an error's kind, sought from one on. -/
def codeGo (c : Int) : Nat → Nat → Int
  | 0, _ => -1
  | d + 1, i => if c = (i : Int) then (i : Int) else codeGo c d (i + 1)
/-- Which number an error is, or wraps. -/
inductive IsNo : Er → Int → Prop
  | no (c : Int) : IsNo (.no c) c
  | at_ (o c : Int) : IsNo (.at_ o (.no c)) c
theorem codeGo_id : ∀ (d i : Nat) (c : Int), (i : Int) ≤ c → c < i + d → codeGo c d i = c
  | 0, i, c, h, h2 => by omega
  | d + 1, i, c, h, h2 => by
    simp only [codeGo]
    by_cases q : c = (i : Int)
    · rw [if_pos q, q]
    · rw [if_neg q]
      exact codeGo_id d (i + 1) c (by omega) (by omega)
/-- An error with this number, or none with 0. -/
def Coded : Option Er → Int → Prop
  | none, c => c = 0
  | some e, c => IsNo e c ∧ 1 ≤ c ∧ c ≤ 25
end Go.Proofs.Ytnpgadfoohjlnaa.Plain
