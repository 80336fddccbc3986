/- Check and Apply of the layer edit, plain: what they come to. No condition beyond what each lemma says. -/
import Derived.Test.YtnpgadfoohjlnabDoorU1
import Derived.Test.YtnpgadfoohjlnabDoorQE1
import Derived.Test.YtnpgadfoohjlnabDoorQE3
import Derived.Test.YtnpgadfoohjlnabDoorQE7
namespace Go.Proofs.YtnpgadfoohjlnabDoor.Plain
open Go.RowKit Go.Proofs.YtnpgadfoohjlnabDoorW.PrintWords Go.Proofs.YtnpgadfoohjlnabDoorW.PrintLast Go.Proofs.YtnpgadfoohjlnabDoorW.PrintMore Go.Proofs.YtnpgadfoohjlnabDoor.QE

theorem rdE (l : List S76) (i : Nat) (h : i < l.length) : rd_T76 l (i : Int) = l[i] := by
  unfold rd_T76
  rw [Int.toNat_natCast, List.getD_eq_getElem?_getD, List.getElem?_eq_getElem h]
  rfl
/-- May a rune begin, or end, at a place? -/
def boundOf (l : List Int) (a : Int) : Bool := decide (a = (l.length : Int) ∨ (0 ≤ a ∧ a < (l.length : Int) ∧ ¬ cont (rd l a)))
theorem bound_f (l : List Int) (a : Int) (hb : Bytes8 l) : utf_Boundary.f l a = some (boundOf l a) := by
  unfold utf_Boundary.f boundOf
  by_cases c1 : a = (l.length : Int)
  · rw [if_pos c1, decide_eq_true (.inl c1)]
  · rw [if_neg c1]
    by_cases c2 : a < 0
    · rw [if_pos c2, decide_eq_false (fun h => h.elim c1 (fun h => by omega))]
    · rw [if_neg c2]
      by_cases c3 : a > (l.length : Int)
      · rw [if_pos c3, decide_eq_false (fun h => h.elim c1 (fun h => by omega))]
      · rw [if_neg c3, if_pos (by omega), if_pos (by omega)]
        obtain ⟨i, rfl⟩ := Int.eq_ofNat_of_zero_le (a := a) (by omega)
        have hi : i < l.length := by omega
        have hc := hb.at i hi
        rw [rd_nat l i hi]
        by_cases d : cont l[i]
        · have d' := d
          unfold cont at d'
          rw [if_neg (by omega), if_neg (by omega), if_neg (by omega), decide_eq_false (fun h => h.elim c1 (fun h => h.2.2 d))]
        · have d' := d
          unfold cont at d'
          rw [decide_eq_true (.inr ⟨by omega, by omega, d⟩)]
          by_cases e0 : l[i] / 64 = 0
          · rw [if_pos e0]
          · rw [if_neg e0]
            by_cases e1 : l[i] / 64 = 1
            · rw [if_pos e1]
            · rw [if_neg e1, if_pos (by omega)]
theorem bound_range {l : List Int} {a : Int} (h : boundOf l a = true) : 0 ≤ a ∧ a ≤ l.length := by
  unfold boundOf at h
  rcases of_decide_eq_true h with h | h
  · omega
  · omega
/-- What is wrong with an edit by itself, or behind another one. -/
def oneOf (b : List Int) (l : List S76) (i : Nat) (h : i < l.length) : Option Er :=
  if l[i].f1 < l[i].f0 ∨ (0 < i ∧ (l[i].f0 < (l[i - 1]'(by omega)).f1 ∨ l[i].f0 = (l[i - 1]'(by omega)).f0)) then some (.no 5)
  else if boundOf b l[i].f0 = false ∨ boundOf b l[i].f1 = false then some (.no 4)
  else if (checkOf (bytesOf l[i].f2)).isNone = true then none else some (.no 3)
theorem one_ev (b : List Int) (l : List S76) (i : Nat) (h : i < l.length) (hb : Bytes8 b) (hl : l.length ≤ 20000000) (hs : l[i].f2.size ≤ 9223372036854775807) : Ev (fun k => edit_one.f k b l (i : Int)) (oneOf b l i h) := by
  have j1 : ∀ c : Bool, Ev (fun k => edit_one.j1 k c l[i].f0 l[i].f1 l[i].f2) (if c = true then some (.no 4) else if (checkOf (bytesOf l[i].f2)).isNone = true then none else some (.no 3)) := by
    intro c
    cases c with
    | true =>
      refine evConst (fun k => ?_)
      simp only [edit_one.j1]
      rfl
    | false =>
      refine evNext (f := fun k => (utf_Check.f k (bytesOf l[i].f2)).bind fun t => if t.isNone = true then some none else some (some (Er.no 3))) ?_ (fun k => by simp only [edit_one.j1]; rw [if_neg (show ¬ (false = true) by simp), if_pos hs])
      refine Ev.bind (f := fun k t => if t.isNone = true then some none else some (some (Er.no 3))) (check_ev _ (bytes8_of _)) ?_
      rw [if_neg (show ¬ (false = true) by simp)]
      by_cases d : (checkOf (bytesOf l[i].f2)).isNone = true
      · simp only [if_pos d]
        exact Ev.now _
      · simp only [if_neg d]
        exact Ev.now _
  have j0 : ∀ c : Bool, Ev (fun k => edit_one.j0 k b c l[i].f0 l[i].f1 l[i].f2) (if c = true then some (.no 5) else if boundOf b l[i].f0 = false ∨ boundOf b l[i].f1 = false then some (.no 4) else if (checkOf (bytesOf l[i].f2)).isNone = true then none else some (.no 3)) := by
    intro c
    cases c with
    | true =>
      refine evConst (fun k => ?_)
      simp only [edit_one.j0]
      rfl
    | false =>
      rw [if_neg (show ¬ (false = true) by simp)]
      cases e0 : boundOf b l[i].f0 with
      | false =>
        refine evNext (j1 true) (fun k => ?_)
        simp only [edit_one.j0]
        rw [if_neg (show ¬ (false = true) by simp), bound_f b _ hb, e0, Option.bind_some, if_neg (show ¬ (false = true) by simp)]
      | true =>
        cases e1 : boundOf b l[i].f1 with
        | false =>
          refine evNext (j1 true) (fun k => ?_)
          simp only [edit_one.j0]
          rw [if_neg (show ¬ (false = true) by simp), bound_f b _ hb, e0, Option.bind_some, if_pos rfl, bound_f b _ hb, e1, Option.bind_some]
          rfl
        | true =>
          refine evNext (f := fun k => edit_one.j1 k false l[i].f0 l[i].f1 l[i].f2) ?_ (fun k => ?_)
          · have := j1 false
            rw [if_neg (show ¬ (false = true) by simp)] at this
            rw [if_neg (show ¬ (true = false ∨ true = false) by simp)]
            exact this
          · simp only [edit_one.j0]
            rw [if_neg (show ¬ (false = true) by simp), bound_f b _ hb, e0, Option.bind_some, if_pos rfl, bound_f b _ hb, e1, Option.bind_some]
            rfl
  unfold oneOf
  by_cases c1 : l[i].f1 < l[i].f0
  · have := j0 true
    rw [if_pos rfl] at this
    rw [if_pos (.inl c1)]
    refine evCong this (fun k => ?_)
    unfold edit_one.f
    rw [if_pos (by omega), if_pos (by omega), rdE l i h, if_pos c1]
  · by_cases c2 : 0 < i
    · have hp : i - 1 < l.length := by omega
      have hw : wrap64 ((i : Int) - 1) = ((i - 1 : Nat) : Int) := by
        rw [w64_id (by omega) (by omega)]
        omega
      by_cases c3 : l[i].f0 < l[i - 1].f1
      · have := j0 true
        rw [if_pos rfl] at this
        rw [if_pos (.inr ⟨c2, .inl c3⟩)]
        refine evCong this (fun k => ?_)
        unfold edit_one.f
        rw [if_pos (by omega), if_pos (by omega), rdE l i h, if_neg c1, if_pos (by omega), hw, if_pos (by omega), if_pos (by omega), rdE l (i - 1) hp, if_pos c3]
      · have hj := j0 (l[i].f0 == l[i - 1].f0)
        have hc : ((l[i].f0 == l[i - 1].f0) = true) ↔ (l[i].f1 < l[i].f0 ∨ (0 < i ∧ (l[i].f0 < l[i - 1].f1 ∨ l[i].f0 = l[i - 1].f0))) := by
          rw [beq_iff_eq]
          exact ⟨fun h => .inr ⟨c2, .inr h⟩, fun h => h.elim (fun h => absurd h c1) (fun h => h.2.elim (fun h => absurd h c3) id)⟩
        refine evCong (f := fun k => edit_one.j0 k b (l[i].f0 == l[i - 1].f0) l[i].f0 l[i].f1 l[i].f2) ?_ (fun k => ?_)
        · by_cases d : (l[i].f0 == l[i - 1].f0) = true
          · rw [if_pos d] at hj
            rw [if_pos (hc.1 d)]
            exact hj
          · rw [if_neg d] at hj
            rw [if_neg (fun h => d (hc.2 h))]
            exact hj
        · unfold edit_one.f
          rw [if_pos (by omega), if_pos (by omega), rdE l i h, if_neg c1, if_pos (by omega), hw, if_pos (by omega), if_pos (by omega), rdE l (i - 1) hp, if_neg c3]
    · have := j0 false
      rw [if_neg (show ¬ (false = true) by simp)] at this
      rw [if_neg (fun h => h.elim c1 (fun h => c2 h.1))]
      refine evCong this (fun k => ?_)
      unfold edit_one.f
      rw [if_pos (by omega), if_pos (by omega), rdE l i h, if_neg c1, if_neg (by omega)]
/-- The first edit that is wrong, from one on. -/
def chkFrom (b : List Int) (l : List S76) : Nat → Nat → Option Er
  | 0, _ => none
  | d + 1, i => if h : i < l.length then match oneOf b l i h with
    | none => chkFrom b l d (i + 1)
    | some e => some (.at_ i e)
    else none
def checkE (b : List Int) (l : List S76) : Option Er := if 1000 < l.length then some (.no 2) else chkFrom b l l.length 0
theorem chk_loop (b : List Int) (l : List S76) (hb : Bytes8 b) (hl : l.length ≤ 20000000) (hs : ∀ x ∈ l, x.f2.size ≤ 9223372036854775807) : ∀ (d i : Nat), i + d = l.length → Ev (fun k => edit_Check.l0 k b l (l.length : Int) (i : Int)) (chkFrom b l d i)
  | 0, i, h => by
    refine evConst fun k => ?_
    simp only [edit_Check.l0, chkFrom]
    rw [if_neg (by omega)]
  | d + 1, i, h => by
    have hi : i < l.length := by omega
    have ih := chk_loop b l hb hl hs d (i + 1) (by omega)
    refine evNext (f := fun k => (edit_one.f k b l (i : Int)).bind fun t => if t.isNone = true then edit_Check.l0 k b l (l.length : Int) ((i + 1 : Nat) : Int) else some (some (Er.at_ (i : Int) (t.getD (Er.no 0))))) ?_ (fun k => by simp only [edit_Check.l0]; rw [if_pos (by omega), w64_succ hi (by omega)])
    refine Ev.bind (f := fun k t => if t.isNone = true then edit_Check.l0 k b l (l.length : Int) ((i + 1 : Nat) : Int) else some (some (Er.at_ (i : Int) (t.getD (Er.no 0))))) (one_ev b l i hi hb hl (hs _ (List.getElem_mem hi))) ?_
    simp only [chkFrom, dif_pos hi]
    cases e : oneOf b l i hi with
    | none => exact ih
    | some q => exact Ev.now _
theorem checkE_ev (b : List Int) (l : List S76) (hb : Bytes8 b) (hs : ∀ x ∈ l, x.f2.size ≤ 9223372036854775807) : Ev (fun k => edit_Check.f k b l) (checkE b l) := by
  unfold checkE
  by_cases c : 1000 < l.length
  · rw [if_pos c]
    refine evConst fun k => ?_
    unfold edit_Check.f
    rw [if_pos (by omega)]
  · rw [if_neg c]
    refine evCong (chk_loop b l hb (by omega) hs l.length 0 (by omega)) (fun k => ?_)
    unfold edit_Check.f
    rw [if_neg (by omega)]
    rfl
/-- Edits that lie in order, from a place on. -/
def ValidL (n : Int) : Int → List S76 → Prop
  | a, [] => a ≤ n
  | a, x :: r => a ≤ x.f0 ∧ x.f0 ≤ x.f1 ∧ x.f1 ≤ n ∧ ValidL n x.f1 r
theorem chk_valid (b : List Int) (l : List S76) : ∀ (d i : Nat) (a : Int), i + d = l.length → chkFrom b l d i = none → (∀ h : 0 < i ∧ i ≤ l.length, a = (l[i - 1]'(by omega)).f1) → (i = 0 → a = 0) → a ≤ b.length → ValidL b.length a (l.drop i)
  | 0, i, a, h, _, _, _, ha => by
    rw [List.drop_of_length_le (by omega)]
    exact ha
  | d + 1, i, a, h, hc, hp, h0, ha => by
    have hi : i < l.length := by omega
    rw [List.drop_eq_getElem_cons hi]
    simp only [chkFrom, dif_pos hi] at hc
    cases e : oneOf b l i hi with
    | some q =>
      rw [e] at hc
      cases hc
    | none =>
      rw [e] at hc
      unfold oneOf at e
      split at e
      · cases e
      · rename_i c1
        split at e
        · cases e
        · rename_i c2
          have b0 : boundOf b l[i].f0 = true := by
            cases q : boundOf b l[i].f0 with
            | true => rfl
            | false => exact absurd (.inl q) c2
          have b1 : boundOf b l[i].f1 = true := by
            cases q : boundOf b l[i].f1 with
            | true => rfl
            | false => exact absurd (.inr q) c2
          have r0 := bound_range b0
          have r1 := bound_range b1
          have hle : a ≤ l[i].f0 := by
            by_cases z : i = 0
            · rw [h0 z]
              exact r0.1
            · rw [hp ⟨by omega, by omega⟩]
              have : ¬ (l[i].f0 < (l[i - 1]'(by omega)).f1) := fun h => c1 (.inr ⟨by omega, .inl h⟩)
              omega
          refine ⟨hle, ?_, r1.2, chk_valid b l d (i + 1) _ (by omega) hc (fun _ => rfl) (fun h => by omega) r1.2⟩
          have : ¬ (l[i].f1 < l[i].f0) := fun h => c1 (.inl h)
          omega
theorem checkE_valid {b : List Int} {l : List S76} (h : checkE b l = none) : ValidL b.length 0 l := by
  unfold checkE at h
  split at h
  · cases h
  · exact chk_valid b l l.length 0 0 (by omega) h (fun h => by omega) (fun _ => rfl) (by omega)
/-- The file behind edits, from a place on. -/
def app (b : List Int) : Int → List S76 → List Int
  | a, [] => b.drop a.toNat
  | a, x :: r => (b.take x.f0.toNat).drop a.toNat ++ bytesOf x.f2 ++ app b x.f1 r
def small (l : List S76) : Prop := ∀ x ∈ l, x.f2.size ≤ 40
theorem apply_loop (b : List Int) (l : List S76) (hn : b.length ≤ 300) (hl : l.length ≤ 12) (hs : small l) : ∀ (d i : Nat) (a : Int) (acc : List Int), i + d = l.length → 0 ≤ a → ValidL b.length a (l.drop i) → (acc.length : Int) ≤ a + 40 * i →
    Ev (fun k => edit_Apply.l0 k b acc a l (l.length : Int) (i : Int)) (acc ++ app b a (l.drop i), none)
  | 0, i, a, acc, h, ha, hv, hc => by
    rw [List.drop_of_length_le (by omega)] at hv ⊢
    have hv : a ≤ (b.length : Int) := hv
    simp only [app]
    refine evConst fun k => ?_
    simp only [edit_Apply.l0]
    have hd : (b.drop a.toNat).length = b.length - a.toNat := List.length_drop
    rw [if_neg (by omega), if_pos ha, if_pos hv, Option.bind_some, if_pos (by omega), Option.bind_some, if_neg (by rw [List.length_append]; omega)]
  | d + 1, i, a, acc, h, ha, hv, hc => by
    have hi : i < l.length := by omega
    rw [List.drop_eq_getElem_cons hi] at hv ⊢
    obtain ⟨v0, v1, v2, v3⟩ := hv
    have hz := hs _ (List.getElem_mem hi)
    have hd : ((b.take l[i].f0.toNat).drop a.toNat).length = min l[i].f0.toNat b.length - a.toNat := by rw [List.length_drop, List.length_take]
    have hb : (bytesOf l[i].f2).length = l[i].f2.size := bytesOf_length _
    have ih := apply_loop b l hn hl hs d (i + 1) l[i].f1 (acc ++ (b.take l[i].f0.toNat).drop a.toNat ++ bytesOf l[i].f2) (by omega) (by omega) v3 (by rw [List.length_append, List.length_append, hd, hb]; omega)
    simp only [app]
    rw [show acc ++ ((b.take l[i].f0.toNat).drop a.toNat ++ bytesOf l[i].f2 ++ app b l[i].f1 (l.drop (i + 1))) = acc ++ (b.take l[i].f0.toNat).drop a.toNat ++ bytesOf l[i].f2 ++ app b l[i].f1 (l.drop (i + 1)) by simp only [List.append_assoc]]
    refine evNext ih (fun k => ?_)
    simp only [edit_Apply.l0]
    rw [if_pos (by omega), if_pos (by omega), if_pos (by omega), rdE l i hi, if_pos ha, if_pos v0, if_pos (by omega), Option.bind_some, if_pos (by omega), Option.bind_some, if_pos (by rw [List.length_append]; omega), w64_succ hi (by omega)]
/-- What Apply comes to, of small files and edits. -/
def applyOf (b : List Int) (l : List S76) : List Int × Option Er := match checkE b l with
  | none => (app b 0 l, none)
  | some e => ([], some e)
theorem apply_ev (b : List Int) (l : List S76) (hb : Bytes8 b) (hn : b.length ≤ 300) (hl : l.length ≤ 12) (hs : small l) : Ev (fun k => edit_Apply.f k b l) (applyOf b l) := by
  unfold edit_Apply.f
  refine Ev.bind (f := fun k t => if t.isNone = true then edit_Apply.l0 k b ([] : List Int) 0 l (l.length : Int) 0 else some (([] : List Int), some (t.getD (Er.no 0)))) (checkE_ev b l hb (fun x hx => by have := hs x hx; omega)) ?_
  unfold applyOf
  cases e : checkE b l with
  | some q => exact Ev.now _
  | none => exact apply_loop b l hn hl hs l.length 0 0 [] (by omega) (by omega) (checkE_valid e) (by simp)
end Go.Proofs.YtnpgadfoohjlnabDoor.Plain
