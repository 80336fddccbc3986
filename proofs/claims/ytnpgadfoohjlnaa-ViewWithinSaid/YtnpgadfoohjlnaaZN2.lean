/- A file's nodes, plain: operators, directions, kinds of tokens; the law on them. No condition beyond what each lemma says. -/
import Derived.Test.YtnpgadfoohjlnaaZN1
import Derived.Test.YtnpgadfoohjlnaaQV9
namespace Go.Proofs.Ytnpgadfoohjlnaa.Plain
open Go.RowKit Go.Proofs.YtnpgadfoohjlnaaW.PrintWords Go.Proofs.YtnpgadfoohjlnaaW.PrintLast Go.Proofs.YtnpgadfoohjlnaaW.PrintMore Go.Proofs.Ytnpgadfoohjlnaa.QV

abbrev kd15 (ts : List S38) (i : Int) : Int := (rd_T38 ts i).f0
/-- The ten signs that are no operators. -/
abbrev sign (k : Int) : Prop := 78 ≤ k ∧ k ≤ 87
abbrev signs : ByteArray := ⟨#[40, 32, 41, 32, 91, 32, 93, 32, 123, 32, 125, 32, 44, 32, 46, 32, 58, 32, 59, 32]⟩
def opL (ts : List S38) : List Int → Int
  | [] => 0
  | i :: is => if sign (kd15 ts i) then opL ts is else kd15 ts i
/-- A channel's direction. -/
def chanN (ts : List S38) (l : List S44) (n : Int) : Int :=
  if (nodeN l n).1 = 26 then (if 0 < (ownN l n).length ∧ kd15 ts (rd (ownN l n) 0) = 64 then 2 else if 1 < (ownN l n).length ∧ kd15 ts (rd (ownN l n) 1) = 64 then 1 else 0) else 0
theorem rd_in {own : List Int} {t : Int} (hin : ∀ x ∈ own, 0 ≤ x ∧ x < t) (i : Nat) (h : i < own.length) : 0 ≤ rd own (i : Int) ∧ rd own (i : Int) < t := by
  rw [rd_nat own i h]
  exact hin _ (List.getElem_mem h)
def hasL (ts : List S38) (K : Int) (own : List Int) : Bool := own.any fun i => kd15 ts i == K
theorem vworks_ev : Ev (fun k => cavillaw15_works.f k) true := Ev.of (fun k => cavillaw15_works.mono k) (k := 60) (by decide +kernel)
end Go.Proofs.Ytnpgadfoohjlnaa.Plain
