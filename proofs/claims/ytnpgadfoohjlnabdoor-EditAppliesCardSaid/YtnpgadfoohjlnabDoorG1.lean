/- Grow, few and small words of the layer edit, plain: what they come to. No condition beyond what each lemma says. -/
import Derived.Test.YtnpgadfoohjlnabDoorE1
import Derived.Test.YtnpgadfoohjlnabDoorQE8
import Derived.Test.YtnpgadfoohjlnabDoorQE1
import Derived.Test.YtnpgadfoohjlnabDoorQE9
namespace Go.Proofs.YtnpgadfoohjlnabDoor.Plain
open Go.RowKit Go.Proofs.YtnpgadfoohjlnabDoorW.PrintWords Go.Proofs.YtnpgadfoohjlnabDoorW.PrintLast Go.Proofs.YtnpgadfoohjlnabDoorW.PrintMore Go.Proofs.YtnpgadfoohjlnabDoor.QE

theorem rd64 (l : List S76) (i : Nat) (h : i < l.length) : rd_T76 l (i : Int) = l[i] := by
  unfold rd_T76
  rw [Int.toNat_natCast, List.getD_eq_getElem?_getD, List.getElem?_eq_getElem h]
  rfl
/-- By how much an edit makes a file longer. -/
def more (x : S76) : Int := (x.f2.size : Int) - (x.f1 - x.f0)
def gstep (n : Int) (x : S76) : Int := wrap64 (n + more x)
def grow (l : List S76) : Int := l.foldl gstep 0
theorem more_f (x : S76) : edit_more.f x.f0 x.f1 x.f2 = some (wrap64 (more x)) := by
  unfold edit_more.f more
  rw [w64_sub_r]
theorem drop_cons {α : Type} (l : List α) (i : Nat) (h : i < l.length) : l.drop i = l[i] :: l.drop (i + 1) := List.drop_eq_getElem_cons h
theorem grow_loop (l : List S76) (hl : l.length ≤ 9223372036854775807) : ∀ (d i : Nat) (n : Int), i + d = l.length → Ev (fun k => edit_Grow.l0 k n l (l.length : Int) (i : Int)) ((l.drop i).foldl gstep n)
  | 0, i, n, h => by
    refine evConst fun k => ?_
    simp only [edit_Grow.l0]
    rw [if_neg (by omega), List.drop_of_length_le (by omega)]
    rfl
  | d + 1, i, n, h => by
    have hi : i < l.length := by omega
    rw [drop_cons l i hi, List.foldl_cons]
    refine evNext (grow_loop l hl d (i + 1) (gstep n l[i]) (by omega)) (fun k => ?_)
    simp only [edit_Grow.l0]
    rw [if_pos (by omega), if_pos (by omega), if_pos (by omega), rd64 l i hi, more_f, Option.bind_some, w64_add_r, w64_succ hi hl]
    rfl
theorem grow_ev (l : List S76) (hl : l.length ≤ 9223372036854775807) : Ev (fun k => edit_Grow.f k l) (grow l) := grow_loop l hl l.length 0 0 (by omega)
/-- What 'few' leaves: not more than a dozen edits. -/
def fewOne (x : S76) : S76 := ⟨x.f0, x.f1, x.f2.extract 0 (mn (x.f2.size : Int) 40).toNat⟩
theorem mn_bd (n : Nat) : 0 ≤ mn (n : Int) 40 ∧ mn (n : Int) 40 ≤ n := by
  unfold mn
  split <;> omega
theorem few_loop (l : List S76) : ∀ (d i : Nat) (acc : List S76), i + d = 12 → acc.length ≤ i → Ev (fun k => cavillaw04_few.l0 k l acc (i : Int)) (acc ++ ((l.drop i).take d).map fewOne)
  | 0, i, acc, h, ha => by
    refine evConst fun k => ?_
    simp only [cavillaw04_few.l0]
    rw [List.take_zero, List.map_nil, List.append_nil]
    by_cases c : (i : Int) < (l.length : Int)
    · rw [if_pos c, if_neg (by omega)]
    · rw [if_neg c]
  | d + 1, i, acc, h, ha => by
    by_cases hi : i < l.length
    · rw [drop_cons l i hi, List.take_succ_cons, List.map_cons]
      have ih := few_loop l d (i + 1) (acc ++ [fewOne l[i]]) (by omega) (by rw [List.length_append, List.length_singleton]; omega)
      rw [List.append_assoc, List.singleton_append] at ih
      refine evNext ih (fun k => ?_)
      simp only [cavillaw04_few.l0]
      rw [if_pos (by omega), if_pos (by omega), if_pos (by omega), rd64 l i hi, if_pos (mn_bd _).1, if_pos (mn_bd _).2, if_pos (by omega), w64_succ (n := 12) (by omega) (by omega)]
      rfl
    · refine evConst fun k => ?_
      simp only [cavillaw04_few.l0]
      rw [if_neg (by omega), List.drop_of_length_le (by omega), List.take_nil, List.map_nil, List.append_nil]
def fewOf (l : List S76) : List S76 := (l.take 12).map fewOne
theorem few_ev (l : List S76) : Ev (fun k => cavillaw04_few.f k l) (fewOf l) := few_loop l 12 0 [] (by omega) (by simp)
theorem few_len (l : List S76) : (fewOf l).length ≤ 12 := by
  unfold fewOf
  rw [List.length_map, List.length_take]
  omega
theorem more_bd {x : S76} {n : Int} (h0 : 0 ≤ x.f0) (h1 : x.f0 ≤ x.f1) (h2 : x.f1 ≤ n) (hn : n ≤ 300) (hs : x.f2.size ≤ 40) : -300 ≤ more x ∧ more x ≤ 40 := by
  unfold more
  omega
theorem small_cons {x : S76} {r : List S76} (h : small (x :: r)) : x.f2.size ≤ 40 ∧ small r := ⟨h x (List.mem_cons_self ..), fun y hy => h y (List.mem_cons_of_mem _ hy)⟩
theorem gstep_eq {n : Int} {x : S76} (h : -100000 ≤ n + more x ∧ n + more x ≤ 100000) : gstep n x = n + more x := w64_id (by omega) (by omega)
theorem few_small (l : List S76) : small (fewOf l) := by
  intro x hx
  unfold fewOf at hx
  obtain ⟨y, _, rfl⟩ := List.mem_map.1 hx
  unfold fewOne
  show (y.f2.extract 0 _).size ≤ 40
  rw [ByteArray.size_extract]
  have : (mn (y.f2.size : Int) 40).toNat ≤ 40 := by
    unfold mn
    split <;> omega
  omega
theorem works_ev : Ev (fun k => cavillaw04_works.f k) true := Ev.of (fun k => cavillaw04_works.mono k) (k := 60) (by decide +kernel)
end Go.Proofs.YtnpgadfoohjlnabDoor.Plain
