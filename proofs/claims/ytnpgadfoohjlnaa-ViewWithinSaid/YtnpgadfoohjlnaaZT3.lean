/- The tree that the laws of layer 13 look at, and the chapter's example. No condition beyond what each lemma says. -/
import Derived.Test.YtnpgadfoohjlnaaZT2
import Derived.Test.YtnpgadfoohjlnaaQV2
namespace Go.Proofs.Ytnpgadfoohjlnaa.Plain
open Go.RowKit Go.Proofs.YtnpgadfoohjlnaaW.PrintWords Go.Proofs.YtnpgadfoohjlnaaW.PrintLast Go.Proofs.YtnpgadfoohjlnaaW.PrintMore Go.Proofs.Ytnpgadfoohjlnaa.QV

def cut (x : S44) : S44 := ⟨x.f0, x.f1, x.f2, x.f3.take 20⟩
/-- The tree that the laws look at. -/
def fewOf (l : List S44) : List S44 := (l.take 40).map cut
theorem few_small (l : List S44) : Small (fewOf l) := by
  refine ⟨by unfold fewOf; rw [List.length_map, List.length_take]; omega, fun x hx => ?_⟩
  obtain ⟨y, _, rfl⟩ := List.mem_map.1 hx
  show (y.f3.take 20).length ≤ 20
  rw [List.length_take]
  omega
theorem mn_take (x : List Int) : 0 ≤ mn (x.length : Int) 20 ∧ mn (x.length : Int) 20 ≤ x.length ∧ x.take (mn (x.length : Int) 20).toNat = x.take 20 := by
  unfold mn
  split
  · exact ⟨by omega, by omega, rfl⟩
  · refine ⟨by omega, by omega, ?_⟩
    rw [Int.toNat_natCast, List.take_of_length_le (Nat.le_refl _), List.take_of_length_le (by omega)]
theorem few_loop (l : List S44) : ∀ (d i : Nat), i + d = min 40 l.length → Ev (fun k => cavillaw13_Few.l0 k (i : Int) l ((l.take i).map cut)) (fewOf l)
  | 0, i, h => by
    refine evConst fun k => ?_
    simp only [cavillaw13_Few.l0]
    have e : (l.take i).map cut = fewOf l := by
      unfold fewOf
      by_cases c : l.length ≤ 40
      · rw [List.take_of_length_le (by omega), List.take_of_length_le (by omega)]
      · rw [show i = 40 by omega]
    by_cases c : (i : Int) < l.length
    · rw [if_pos c, if_neg (by omega), e]
    · rw [if_neg c, e]
  | d + 1, i, h => by
    have hi : i < l.length := by omega
    have hm := mn_take l[i].f3
    have e : (l.take i).map cut ++ [cut l[i]] = (l.take (i + 1)).map cut := by
      rw [List.take_add_one, List.getElem?_eq_getElem hi, List.map_append]
      rfl
    refine evNext (few_loop l d (i + 1) (by omega)) fun k => ?_
    simp only [cavillaw13_Few.l0]
    rw [if_pos (by omega), if_pos (by omega), if_pos (by omega), rd33_nat l i hi, if_pos hm.1, if_pos hm.2.1, if_pos (by rw [List.length_map, List.length_take]; omega), hm.2.2, w64_succ (n := 100) (by omega) (by omega), ← e]
    rfl
theorem few_ev (l : List S44) : Ev (fun k => cavillaw13_Few.f k l) (fewOf l) := by
  refine evCong (few_loop l (min 40 l.length) 0 (by omega)) fun k => ?_
  unfold cavillaw13_Few.f
  rfl
end Go.Proofs.Ytnpgadfoohjlnaa.Plain
