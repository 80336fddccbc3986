/- UtfChecks and UtfDecodes, plain: for every list of bytes the laws return true. No condition beyond that the elements are bytes. -/
import Derived.Test.YtnpgadfoohjlnaaDoorU4
import Derived.Test.YtnpgadfoohjlnaaDoorQU5
import Derived.Test.YtnpgadfoohjlnaaDoorQU6
namespace Go.Proofs.YtnpgadfoohjlnaaDoor.Plain
open Go.RowKit Go.Proofs.YtnpgadfoohjlnaaDoorW.PrintWords Go.Proofs.YtnpgadfoohjlnaaDoorW.PrintLast Go.Proofs.YtnpgadfoohjlnaaDoorW.PrintMore Go.Proofs.YtnpgadfoohjlnaaDoor.QU

theorem one_f (c : Int) : cavillaw01_one.f c = some (if c = 0 then 1 else 0) := by
  unfold cavillaw01_one.f
  split <;> rfl
theorem count_coded (l : List Int) : Coded (countOf l).2 (rcheckOf l).1 ∧ cavillaw01_Off.f (countOf l).2 = some (rcheckOf l).2 := by
  have h1 := check_coded l
  have h2 := check_off l
  unfold countOf
  cases h : checkOf l with
  | none => rw [h] at h1 h2; exact ⟨h1, h2⟩
  | some e => rw [h] at h1 h2; exact ⟨h1, h2⟩
theorem count_one {l : List Int} (hl : l.length ≤ 16777216) : (countOf l).1 = rcountOf l * (if (rcheckOf l).1 = 0 then 1 else 0) := by
  have n1 : ¬ 16777216 < l.length := by omega
  by_cases c : (walkL l.length l 0 0).2 < (l.length : Int)
  · have e1 : checkOf l = some (.at_ (walkL l.length l 0 0).2 (.no 3)) := by unfold checkOf; rw [if_neg n1, if_pos c]
    have e2 : rcountOf l = 0 := by unfold rcountOf cntRes; rw [if_pos c]
    have e3 : countOf l = (0, some (.at_ (walkL l.length l 0 0).2 (.no 3))) := by simp only [countOf, e1]
    rw [e3, e2, Int.zero_mul]
  · have e1 : checkOf l = none := by unfold checkOf; rw [if_neg n1, if_neg c]
    have e2 : rcountOf l = (walkL l.length l 0 0).1 := by unfold rcountOf cntRes; rw [if_neg c]
    have e3 : countOf l = ((walkL l.length l 0 0).1, none) := by simp only [countOf, e1]
    have e4 : rcheckOf l = (0, -1) := by unfold rcheckOf chkRes; rw [if_neg n1, if_neg c]
    rw [e3, e2, e4, if_pos rfl, Int.mul_one]
theorem UtfChecks (l : List Int) (a : Int) (hb : Bytes8 l) : ∃ k, cavillaw01_UtfChecks.f k l a = some true := by
  have hm := mn0 (n := 300) (by omega) l
  have hy : Bytes8 (cap 300 l) := hb.take _
  have hn := cap_len (n := 300) (by omega) l
  have hc1 := count_coded (cap 300 l)
  have hc2 := count_one (l := cap 300 l) (by omega)
  have hbd := walkL_bd2 (cap 300 l).length (cap 300 l) 0 0
  have hbe := walkL_bd (cap 300 l).length (cap 300 l) 0 0
  have hw : wrap64 (rcountOf (cap 300 l) * (if (rcheckOf (cap 300 l)).1 = 0 then 1 else 0)) = rcountOf (cap 300 l) * (if (rcheckOf (cap 300 l)).1 = 0 then 1 else 0) := by
    have : 0 ≤ rcountOf (cap 300 l) ∧ rcountOf (cap 300 l) ≤ 300 := by
      unfold rcountOf cntRes
      split <;> omega
    split <;> exact w64_id (by omega) (by omega)
  obtain ⟨K1, h1⟩ := check_ev (cap 300 l) hy
  obtain ⟨K2, h2⟩ := rcheck_ev (cap 300 l) hy
  obtain ⟨K3, h3⟩ := count_ev (cap 300 l) hy (by omega)
  obtain ⟨K4, h4⟩ := coded_ev (check_coded (cap 300 l))
  obtain ⟨K5, h5⟩ := rcount_ev (cap 300 l) hy (by omega)
  obtain ⟨K6, h6⟩ := coded_ev hc1.1
  obtain ⟨K7, h7⟩ := works_ev
  obtain ⟨k, hk⟩ : ∃ k, k = K1 + K2 + K3 + K4 + K5 + K6 + K7 := ⟨_, rfl⟩
  refine ⟨k, ?_⟩
  dsimp only at h1 h2 h3 h4 h5 h6 h7
  unfold cavillaw01_UtfChecks.f
  rw [if_pos hm.1, if_pos hm.2, Option.bind_some]
  show (utf_Check.f k (cap 300 l)).bind _ = _
  rw [h1 k (by omega), Option.bind_some]
  show (cavilref01_Check.f k (cap 300 l)).bind _ = _
  rw [h2 k (by omega), Option.bind_some]
  show (utf_Count.f k (cap 300 l)).bind _ = _
  rw [h3 k (by omega), Option.bind_some, h4 k (by omega), Option.bind_some, if_pos rfl, check_off, Option.bind_some, if_pos rfl]
  show (cavilref01_Count.f k (cap 300 l)).bind _ = _
  rw [h5 k (by omega), Option.bind_some, one_f, Option.bind_some, hw, if_pos hc2, h6 k (by omega), Option.bind_some, if_pos rfl, hc1.2, Option.bind_some, if_pos rfl]
  show (utf_Boundary.f (cap 300 l) a).bind _ = _
  rw [bound_f hy, Option.bind_some]
  show (cavilref01_Boundary.f (cap 300 l) a).bind _ = _
  rw [rbound_f hy, Option.bind_some, if_pos (by simp), h7 k (by omega)]
  rfl
/-- The program's Decode and the document's, side by side. -/
theorem decode_both (l : List Int) (a : Int) (hb : Bytes8 l) : (decode l a).1 = (rdecode l a).1 ∧ (decode l a).2.1 = (rdecode l a).2.1 ∧ Coded (decode l a).2.2 (rdecode l a).2.2 ∧ wrap64 (decode l a).1 = (decode l a).1 := by
  unfold decode rdecode
  by_cases c : a < 0 ∨ (l.length : Int) ≤ a
  · rw [if_pos c, if_pos c]
    exact ⟨rfl, rfl, ⟨.no 4, by simp⟩, w64_id (a := 0) (by omega) (by omega)⟩
  · rw [if_neg c, if_neg c]
    cases h : decHead (l.drop a.toNat) with
    | none =>
      rw [refHead_none h]
      exact ⟨rfl, rfl, ⟨.no 3, by simp⟩, w64_id (a := 0) (by omega) (by omega)⟩
    | some p =>
      obtain ⟨r, n⟩ := p
      rw [refHead_some h]
      have h2 := (enc_dec (hb.drop _) h).1
      unfold Rune at h2
      exact ⟨rfl, rfl, rfl, w64_id (by show -9223372036854775808 ≤ r; omega) (by show r ≤ _; omega)⟩
theorem UtfDecodes (l : List Int) (a r : Int) (hb : Bytes8 l) (hr0 : -2147483648 ≤ r) (hr1 : r ≤ 2147483647) : ∃ k, cavillaw01_UtfDecodes.f k l a r = some true := by
  have hm := mn0 (n := 300) (by omega) l
  have hy : Bytes8 (cap 300 l) := hb.take _
  have hn := cap_len (n := 300) (by omega) l
  have hd := decode_both (cap 300 l) a hy
  have he : Coded (encOf r).2 (if Rune r then (encL r, (0 : Int)) else ([], 4)).2 ∧ (encOf r).1 = (if Rune r then (encL r, (0 : Int)) else ([], 4)).1 ∧ Bytes8 (encOf r).1 := by
    unfold encOf
    by_cases c : Rune r
    · rw [if_pos c, if_pos c]
      exact ⟨rfl, rfl, encL_bd c⟩
    · rw [if_neg c, if_neg c]
      exact ⟨⟨.no 4, by simp⟩, rfl, fun x hx => by cases hx⟩
  obtain ⟨K1, h1⟩ := decode_ev (cap 300 l) a hy (by omega)
  obtain ⟨K2, h2⟩ := rdecode_ev (cap 300 l) a hy (by omega)
  obtain ⟨K3, h3⟩ := coded_ev hd.2.2.1
  obtain ⟨K4, h4⟩ := coded_ev he.1
  obtain ⟨K7, h7⟩ := works_ev
  obtain ⟨k, hk⟩ : ∃ k, k = K1 + K2 + K3 + K4 + K7 := ⟨_, rfl⟩
  refine ⟨k, ?_⟩
  dsimp only at h1 h2 h3 h4 h7
  unfold cavillaw01_UtfDecodes.f
  rw [if_pos hm.1, if_pos hm.2, Option.bind_some]
  show (utf_Decode.f k (cap 300 l) a).bind _ = _
  rw [h1 k (by omega), Option.bind_some]
  show (cavilref01_Decode.f k (cap 300 l) a).bind _ = _
  rw [h2 k (by omega), Option.bind_some, encode_f, Option.bind_some, w64_id (a := r) (by omega) (by omega), rencode_f, Option.bind_some, hd.2.2.2, if_pos hd.1, if_pos hd.2.1, h3 k (by omega), Option.bind_some, if_pos rfl, equal_f he.2.2 (by rw [← he.2.1]; exact he.2.2), Option.bind_some, if_pos (decide_eq_true he.2.1), h4 k (by omega), Option.bind_some, if_pos rfl, h7 k (by omega)]
  rfl
end Go.Proofs.YtnpgadfoohjlnaaDoor.Plain
