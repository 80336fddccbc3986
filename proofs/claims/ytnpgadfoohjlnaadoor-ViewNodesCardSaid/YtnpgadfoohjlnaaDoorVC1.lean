/- Errors' codes and places, plain. No condition beyond what each lemma says. -/
import Derived.Test.YtnpgadfoohjlnaaDoorU0
import Derived.Test.YtnpgadfoohjlnaaDoorQV0
import Derived.Lib.Strings
import Derived.Test.YtnpgadfoohjlnaaDoorQV3
import Derived.Test.YtnpgadfoohjlnaaDoorQV4
namespace Go.Proofs.YtnpgadfoohjlnaaDoor.Plain
open Go.RowKit Go.Proofs.YtnpgadfoohjlnaaDoorW.PrintWords Go.Proofs.YtnpgadfoohjlnaaDoorW.PrintLast Go.Proofs.YtnpgadfoohjlnaaDoorW.PrintMore Go.Proofs.YtnpgadfoohjlnaaDoor.QV

/-- The number of an error's kind, sought from one on. -/
def codeGo (c : Int) : Nat → Nat → Int
  | 0, _ => -1
  | d + 1, i => if c = (i : Int) then (i : Int) else codeGo c d (i + 1)
/-- Which number an error is, or wraps. -/
inductive IsNo : Er → Int → Prop
  | no (c : Int) : IsNo (.no c) c
  | at_ (o c : Int) : IsNo (.at_ o (.no c)) c
theorem is_f {e : Er} {c : Int} (h : IsNo e c) (d : Int) : errors_Is.f (some e) (some (.no d)) = some (decide (c = d)) := by
  cases h <;> rfl
theorem code_loop {e : Er} {c : Int} (h : IsNo e c) : ∀ (d i : Nat), i + d = 26 → Ev (fun k => cavillaw01_Code.l0 k (some e) (i : Int)) (codeGo c d i)
  | 0, i, hi => by
    refine evConst fun k => ?_
    simp only [cavillaw01_Code.l0, codeGo]
    rw [if_neg (by omega)]
  | d + 1, i, hi => by
    simp only [codeGo]
    by_cases q : c = (i : Int)
    · rw [if_pos q]
      refine evConst fun k => ?_
      simp only [cavillaw01_Code.l0]
      rw [if_pos (by omega), is_f h, Option.bind_some, decide_eq_true q, if_pos rfl]
    · rw [if_neg q]
      refine evNext (code_loop h d (i + 1) (by omega)) (fun k => ?_)
      simp only [cavillaw01_Code.l0]
      rw [if_pos (by omega), is_f h, Option.bind_some, decide_eq_false q, if_neg (by simp), w64_id (by omega) (by omega)]
      rfl
theorem code_ev {e : Er} {c : Int} (h : IsNo e c) : Ev (fun k => cavillaw01_Code.f k (some e)) (codeGo c 25 1) := code_loop h 25 1 rfl
theorem codeGo_id : ∀ (d i : Nat) (c : Int), (i : Int) ≤ c → c < i + d → codeGo c d i = c
  | 0, i, c, h, h2 => by omega
  | d + 1, i, c, h, h2 => by
    simp only [codeGo]
    by_cases q : c = (i : Int)
    · rw [if_pos q, q]
    · rw [if_neg q]
      exact codeGo_id d (i + 1) c (by omega) (by omega)
/-- An error with this number, or none with 0. -/
def Coded : Option Er → Int → Prop
  | none, c => c = 0
  | some e, c => IsNo e c ∧ 1 ≤ c ∧ c ≤ 25
theorem coded_ev {e : Option Er} {c : Int} (h : Coded e c) : Ev (fun k => cavillaw01_Code.f k e) c := by
  cases e with
  | none =>
    cases h
    exact Ev.now _
  | some e =>
    have := code_ev h.1
    rw [codeGo_id 25 1 c (by have := h.2.1; omega) (by have := h.2.2; omega)] at this
    exact this
theorem off_no (c : Int) : cavillaw01_Off.f (some (.no c)) = some (-1) := rfl
theorem off_none : cavillaw01_Off.f none = some (-1) := rfl
theorem off_at (o : Int) (e : Er) : cavillaw01_Off.f (some (.at_ o e)) = some o := rfl
end Go.Proofs.YtnpgadfoohjlnaaDoor.Plain
