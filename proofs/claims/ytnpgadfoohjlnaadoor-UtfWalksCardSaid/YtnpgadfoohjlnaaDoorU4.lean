/- UTF-8, plain: how many runes there are, and where the first bytes stand that are none: the program's and the document's. No condition beyond what each lemma says. -/
import Derived.Test.YtnpgadfoohjlnaaDoorU3
import Derived.Test.YtnpgadfoohjlnaaDoorQU5
import Derived.Test.YtnpgadfoohjlnaaDoorQU3
import Derived.Test.YtnpgadfoohjlnaaDoorQU6
namespace Go.Proofs.YtnpgadfoohjlnaaDoor.Plain
open Go.RowKit Go.Proofs.YtnpgadfoohjlnaaDoorW.PrintWords Go.Proofs.YtnpgadfoohjlnaaDoorW.PrintLast Go.Proofs.YtnpgadfoohjlnaaDoorW.PrintMore Go.Proofs.YtnpgadfoohjlnaaDoor.QU

theorem works_ev : Ev (fun k => cavillaw01_works.f k) true := Ev.of (fun k => cavillaw01_works.mono k) (k := 60) (by decide +kernel)
theorem walkL_bd2 : ∀ (f : Nat) (l : List Int) (m a : Int), (walkL f l m a).1 ≤ m + ((walkL f l m a).2 - a) ∧ m ≤ (walkL f l m a).1
  | 0, l, m, a => by simp only [walkL]; omega
  | f + 1, l, m, a => by
    simp only [walkL]
    cases h : decHead l with
    | none => dsimp only; omega
    | some p =>
      obtain ⟨r, n⟩ := p
      dsimp only
      have h1 := decHead_size h
      have h2 := walkL_bd2 f (l.drop n.toNat) (m + 1) (a + n)
      omega
def chkRes (n : Int) (p : Int × Int) : Int × Int := if p.2 < n then (3, p.2) else (0, -1)
def cntRes (n : Int) (p : Int × Int) : Int := if p.2 < n then 0 else p.1
theorem walkL_none {f : Nat} {l : List Int} {m a : Int} (h : decHead l = none) : walkL f l m a = (m, a) := by
  cases f with
  | zero => rfl
  | succ f => simp only [walkL, h]
theorem walkL_some {f : Nat} {l : List Int} {m a r n : Int} (h : decHead l = some (r, n)) : walkL (f + 1) l m a = walkL f (l.drop n.toNat) (m + 1) (a + n) := by simp only [walkL, h]
theorem refHead_none {l : List Int} (h : decHead l = none) : refHead l = (0, 0, 3) := by simp only [refHead, h]
theorem refHead_some {l : List Int} {r n : Int} (h : decHead l = some (r, n)) : refHead l = (r, n, 0) := by simp only [refHead, h]
/-- What the document's Check comes to. -/
def rcheckOf (l : List Int) : Int × Int := if 16777216 < l.length then (2, -1) else chkRes l.length (walkL l.length l 0 0)
theorem rdecode_at (l : List Int) (i : Nat) (hi : i < l.length) : rdecode l (i : Int) = refHead (l.drop i) := by
  unfold rdecode
  rw [if_neg (by omega), Int.toNat_natCast]
theorem rcheck_loop (l : List Int) (hb : Bytes8 l) (hl : l.length ≤ 20000000) : ∀ (f i : Nat) (m : Int), i ≤ l.length → l.length ≤ i + f → Ev (fun k => cavilref01_Check.l0 k l (i : Int)) (chkRes l.length (walkL f (l.drop i) m (i : Int)))
  | 0, i, m, hi, hf => by
    refine evConst fun k => ?_
    have e : walkL 0 (l.drop i) m (i : Int) = (m, (i : Int)) := rfl
    rw [e]
    unfold chkRes
    rw [if_neg (show ¬ (i : Int) < _ by omega)]
    simp only [cavilref01_Check.l0]
    rw [if_neg (by omega)]
  | f + 1, i, m, hi, hf => by
    by_cases c : i < l.length
    · have hd := rdecode_ev l (i : Int) hb hl
      rw [rdecode_at l i c] at hd
      refine evNext (f := fun k => (cavilref01_Decode.f k l (i : Int)).bind fun b => if b.2.2 = 0 then cavilref01_Check.l0 k l (wrap64 ((i : Int) + b.2.1)) else some (3, (i : Int))) ?_ (fun k => by simp only [cavilref01_Check.l0]; rw [if_pos (by omega)])
      refine Ev.bind (f := fun k b => if b.2.2 = 0 then cavilref01_Check.l0 k l (wrap64 ((i : Int) + b.2.1)) else some (3, (i : Int))) hd ?_
      cases h : decHead (l.drop i) with
      | none =>
        rw [walkL_none h, refHead_none h]
        unfold chkRes
        rw [if_pos (by omega)]
        exact Ev.now _
      | some p =>
        obtain ⟨r, n⟩ := p
        have h1 := decHead_size h
        rw [List.length_drop] at h1
        obtain ⟨j, rfl⟩ := Int.eq_ofNat_of_zero_le (a := n) (by omega)
        have ih := rcheck_loop l hb hl f (i + j) (m + 1) (by omega) (by omega)
        have e2 : wrap64 ((i : Int) + (j : Int)) = ((i + j : Nat) : Int) := by rw [w64_id (by omega) (by omega)]; omega
        rw [walkL_some h, refHead_some h, List.drop_drop, Int.toNat_natCast, ← Int.natCast_add]
        refine evCong ih (fun k => ?_)
        show (if (0 : Int) = 0 then cavilref01_Check.l0 k l (wrap64 ((i : Int) + (j : Int))) else _) = _
        rw [if_pos rfl, e2]
    · refine evConst fun k => ?_
      have e : walkL (f + 1) (l.drop i) m (i : Int) = (m, (i : Int)) := by
        rw [List.drop_of_length_le (by omega)]
        rfl
      rw [e]
      unfold chkRes
      rw [if_neg (show ¬ (i : Int) < _ by omega)]
      simp only [cavilref01_Check.l0]
      rw [if_neg (by omega)]
theorem rcheck_ev (l : List Int) (hb : Bytes8 l) : Ev (fun k => cavilref01_Check.f k l) (rcheckOf l) := by
  unfold rcheckOf
  by_cases c : 16777216 < l.length
  · rw [if_pos c]
    refine evConst fun k => ?_
    unfold cavilref01_Check.f
    rw [if_pos (by omega)]
  · rw [if_neg c]
    refine evCong (f := fun k => cavilref01_Check.l0 k l ((0 : Nat) : Int)) (rcheck_loop l hb (by omega) l.length 0 0 (by omega) (by omega)) (fun k => ?_)
    unfold cavilref01_Check.f
    rw [if_neg (by omega)]
    rfl
/-- What the document's Count comes to. -/
def rcountOf (l : List Int) : Int := cntRes l.length (walkL l.length l 0 0)
theorem rcount_loop (l : List Int) (hb : Bytes8 l) (hl : l.length ≤ 20000000) : ∀ (f i : Nat) (m : Int), i ≤ l.length → l.length ≤ i + f → 0 ≤ m → m ≤ i → Ev (fun k => cavilref01_Count.l0 k l m (i : Int)) (cntRes l.length (walkL f (l.drop i) m (i : Int)))
  | 0, i, m, hi, hf, m0, m1 => by
    refine evConst fun k => ?_
    have e : walkL 0 (l.drop i) m (i : Int) = (m, (i : Int)) := rfl
    rw [e]
    unfold cntRes
    rw [if_neg (show ¬ (i : Int) < _ by omega)]
    simp only [cavilref01_Count.l0]
    rw [if_neg (by omega)]
  | f + 1, i, m, hi, hf, m0, m1 => by
    by_cases c : i < l.length
    · have hd := rdecode_ev l (i : Int) hb hl
      rw [rdecode_at l i c] at hd
      refine evNext (f := fun k => (cavilref01_Decode.f k l (i : Int)).bind fun b => if b.2.2 = 0 then cavilref01_Count.l0 k l (wrap64 (m + 1)) (wrap64 ((i : Int) + b.2.1)) else some 0) ?_ (fun k => by simp only [cavilref01_Count.l0]; rw [if_pos (by omega)])
      refine Ev.bind (f := fun k b => if b.2.2 = 0 then cavilref01_Count.l0 k l (wrap64 (m + 1)) (wrap64 ((i : Int) + b.2.1)) else some 0) hd ?_
      cases h : decHead (l.drop i) with
      | none =>
        rw [walkL_none h, refHead_none h]
        unfold cntRes
        rw [if_pos (by omega)]
        exact Ev.now _
      | some p =>
        obtain ⟨r, n⟩ := p
        have h1 := decHead_size h
        rw [List.length_drop] at h1
        obtain ⟨j, rfl⟩ := Int.eq_ofNat_of_zero_le (a := n) (by omega)
        have ih := rcount_loop l hb hl f (i + j) (m + 1) (by omega) (by omega) (by omega) (by omega)
        have e1 : wrap64 (m + 1) = m + 1 := w64_id (by omega) (by omega)
        have e2 : wrap64 ((i : Int) + (j : Int)) = ((i + j : Nat) : Int) := by rw [w64_id (by omega) (by omega)]; omega
        rw [walkL_some h, refHead_some h, List.drop_drop, Int.toNat_natCast, ← Int.natCast_add]
        refine evCong ih (fun k => ?_)
        show (if (0 : Int) = 0 then cavilref01_Count.l0 k l (wrap64 (m + 1)) (wrap64 ((i : Int) + (j : Int))) else _) = _
        rw [if_pos rfl, e1, e2]
    · refine evConst fun k => ?_
      have e : walkL (f + 1) (l.drop i) m (i : Int) = (m, (i : Int)) := by
        rw [List.drop_of_length_le (by omega)]
        rfl
      rw [e]
      unfold cntRes
      rw [if_neg (show ¬ (i : Int) < _ by omega)]
      simp only [cavilref01_Count.l0]
      rw [if_neg (by omega)]
theorem rcount_ev (l : List Int) (hb : Bytes8 l) (hl : l.length ≤ 20000000) : Ev (fun k => cavilref01_Count.f k l) (rcountOf l) := rcount_loop l hb hl l.length 0 0 (by omega) (by omega) (by omega) (by omega)
/-- What Count comes to. -/
def countOf (l : List Int) : Int × Option Er := match checkOf l with
  | none => ((walkL l.length l 0 0).1, none)
  | some e => (0, some e)
theorem count_ev (l : List Int) (hb : Bytes8 l) (hl : l.length ≤ 20000000) : Ev (fun k => utf_Count.f k l) (countOf l) := by
  unfold utf_Count.f
  refine Ev.bind (f := fun k t => if t.isNone = true then (utf_walk.f k l).bind fun b => some (b.1, none) else some (0, some (t.getD (Er.no 0)))) (check_ev l hb) ?_
  unfold countOf
  cases h : checkOf l with
  | none => exact Ev.bind (f := fun k b => some (b.1, none)) (walk_ev l hb hl) (Ev.now _)
  | some e => exact Ev.now _
theorem rencode_f (r : Int) : cavilref01_Encode.f r = some (if Rune r then (encL r, 0) else ([], 4)) := by
  unfold cavilref01_Encode.f
  rw [rune_f, Option.bind_some]
  by_cases h : Rune r
  · rw [if_pos (decide_eq_true h), rbytes_f h, Option.bind_some, if_pos h]
  · rw [if_neg (by simp [h]), if_neg h]
theorem rbound_f {l : List Int} (h : Bytes8 l) (a : Int) : cavilref01_Boundary.f l a = some (decide (isBound l a)) := by
  unfold cavilref01_Boundary.f
  by_cases s : a < 0
  · rw [if_pos s, decide_eq_false (fun e => by unfold isBound at e; omega)]
  · rw [if_neg s]
    by_cases t : a > (l.length : Int)
    · rw [if_pos t, decide_eq_false (fun e => by unfold isBound at e; omega)]
    · rw [if_neg t]
      by_cases q : a = (l.length : Int)
      · rw [if_pos q, decide_eq_true (show isBound l a from .inl q)]
      · rw [if_neg q, if_pos (by omega), if_pos (by omega)]
        have hb := rd_bd h a (by omega) (by omega)
        by_cases c : cont (rd l a)
        · rw [decide_eq_false (p := isBound l a) (fun e => by unfold isBound at e; rcases e with e | ⟨_, _, e⟩; exact q e; exact e c)]
          unfold cont at c
          rw [if_neg (by omega), decide_eq_false (by omega)]
        · rw [decide_eq_true (show isBound l a from .inr ⟨by omega, by omega, c⟩)]
          unfold cont at c
          by_cases c0 : rd l a < 128
          · rw [if_pos c0]
          · rw [if_neg c0, decide_eq_true (by omega)]
/-- The head of bytes that the laws look at. -/
def cap (n : Int) (l : List Int) : List Int := l.take (mn (l.length : Int) n).toNat
theorem cap_len {n : Int} (hn : 0 ≤ n) (l : List Int) : ((cap n l).length : Int) ≤ n ∧ (cap n l).length ≤ l.length := by
  unfold cap mn
  rw [List.length_take]
  split <;> omega
theorem mn0 {n : Int} (hn : 0 ≤ n) (l : List Int) : 0 ≤ mn (l.length : Int) n ∧ mn (l.length : Int) n ≤ l.length := by
  unfold mn
  split <;> omega
theorem check_coded (l : List Int) : Coded (checkOf l) (rcheckOf l).1 := by
  unfold checkOf rcheckOf chkRes
  split
  · exact ⟨.no 2, by simp⟩
  · split
    · exact ⟨.at_ _ 3, by simp⟩
    · exact rfl
theorem check_off (l : List Int) : cavillaw01_Off.f (checkOf l) = some (rcheckOf l).2 := by
  unfold checkOf rcheckOf chkRes
  split
  · exact off_no 2
  · split
    · exact off_at _ _
    · exact off_none
end Go.Proofs.YtnpgadfoohjlnaaDoor.Plain
