/- UtfBack, plain: for every number and every two lists of bytes the law returns true. No condition beyond that the elements are bytes. -/
import Derived.Test.YtnpgadfoohjlnaaDoorU4
import Derived.Test.YtnpgadfoohjlnaaDoorQU7
namespace Go.Proofs.YtnpgadfoohjlnaaDoor.Plain
open Go.RowKit Go.Proofs.YtnpgadfoohjlnaaDoorW.PrintWords Go.Proofs.YtnpgadfoohjlnaaDoorW.PrintLast Go.Proofs.YtnpgadfoohjlnaaDoorW.PrintMore Go.Proofs.YtnpgadfoohjlnaaDoor.QU

theorem check_enc {r : Int} (h : Rune r) : checkOf (encL r) = none := by
  have hl := encL_len r
  have hd := dec_enc h []
  rw [List.append_nil] at hd
  obtain ⟨n, hn⟩ : ∃ n, (encL r).length = n + 1 := ⟨(encL r).length - 1, by omega⟩
  unfold checkOf
  rw [if_neg (by omega)]
  have e : (walkL (encL r).length (encL r) 0 0).2 = (encL r).length := by
    have e1 : walkL (encL r).length (encL r) 0 0 = walkL (n + 1) (encL r) 0 0 := by rw [hn]
    rw [e1, walkL_some hd, Int.toNat_natCast, List.drop_length, walkL_none rfl]
    show (0 : Int) + _ = _
    omega
  rw [e, if_neg (by omega)]
/-- The bytes behind the first one: no boundaries. -/
theorem inner_no {r : Int} (h : Rune r) (p q : List Int) (i : Nat) (h1 : 1 ≤ i) (h2 : i < (encL r).length) : ¬ isBound (p ++ encL r ++ q) ((p.length + i : Nat) : Int) := by
  obtain ⟨c, l, e, _, hc⟩ := encL_cons h
  have hi : p.length + i < (p ++ encL r ++ q).length := by simp only [List.length_append]; omega
  rintro (e1 | ⟨_, _, e1⟩)
  · omega
  · apply e1
    rw [rd_nat _ _ hi, List.getElem_append_left (by simp only [List.length_append]; omega), List.getElem_append_right (by omega)]
    simp only [e]
    obtain ⟨j, rfl⟩ : ∃ j, i = j + 1 := ⟨i - 1, by omega⟩
    simp only [show p.length + (j + 1) - p.length = j + 1 by omega, List.getElem_cons_succ]
    exact hc _ (List.getElem_mem _)
theorem first_yes {r : Int} (h : Rune r) (p q : List Int) : isBound (p ++ encL r ++ q) (p.length : Int) := by
  obtain ⟨c, l, e, hc, _⟩ := encL_cons h
  have hi : p.length < (p ++ encL r ++ q).length := by simp only [List.length_append, e, List.length_cons]; omega
  refine .inr ⟨by omega, by omega, ?_⟩
  rw [rd_nat _ _ hi, List.getElem_append_left (by simp only [List.length_append, e, List.length_cons]; omega), List.getElem_append_right (by omega)]
  simp only [e, Nat.sub_self, List.getElem_cons_zero]
  exact hc
theorem back_loop {r : Int} (h : Rune r) (p q : List Int) (hb : Bytes8 (p ++ encL r ++ q)) (hp : p.length ≤ 100) : ∀ (d i : Nat), i + d = (encL r).length → 1 ≤ i → Ev (fun k => cavillaw01_UtfBack.l0 k p (p ++ encL r ++ q) ((encL r).length : Int) (i : Int)) true
  | 0, i, e, h1 => by
    refine evNext works_ev (fun k => ?_)
    simp only [cavillaw01_UtfBack.l0]
    rw [if_neg (by omega)]
    cases cavillaw01_works.f k <;> rfl
  | d + 1, i, e, h1 => by
    have hl := encL_len r
    refine evNext (back_loop h p q hb hp d (i + 1) (by omega) (by omega)) (fun k => ?_)
    have e1 : wrap64 ((p.length : Int) + (i : Int)) = ((p.length + i : Nat) : Int) := by rw [w64_id (by omega) (by omega)]; omega
    have e2 : wrap64 ((i : Int) + 1) = ((i + 1 : Nat) : Int) := by rw [w64_id (by omega) (by omega)]; omega
    simp only [cavillaw01_UtfBack.l0]
    rw [if_pos (by omega), e1, bound_f hb, Option.bind_some, if_neg (by rw [decide_eq_false (inner_no h p q i h1 (by omega))]; simp), e2]
theorem UtfBack (r : Int) (l m : List Int) (hl : Bytes8 l) (hm : Bytes8 m) : ∃ k, cavillaw01_UtfBack.f k r l m = some true := by
  have m1 := mn0 (n := 100) (by omega) l
  have m2 := mn0 (n := 100) (by omega) m
  have hp : Bytes8 (cap 100 l) := hl.take _
  have hq : Bytes8 (cap 100 m) := hm.take _
  have n1 := cap_len (n := 100) (by omega) l
  have n2 := cap_len (n := 100) (by omega) m
  have hel := encL_len r
  obtain ⟨K7, h7⟩ := works_ev
  dsimp only at h7
  by_cases h : Rune r
  · have he : encOf r = (encL r, none) := by unfold encOf; rw [if_pos h]
    have hb : Bytes8 (cap 100 l ++ encL r ++ cap 100 m) := (hp.append (encL_bd h)).append hq
    have hlen : (cap 100 l ++ encL r ++ cap 100 m).length ≤ 204 := by simp only [List.length_append]; omega
    have hd : decode (cap 100 l ++ encL r ++ cap 100 m) ((cap 100 l).length : Int) = (r, ((encL r).length : Int), none) := by
      unfold decode
      rw [if_neg (by simp only [List.length_append]; omega), Int.toNat_natCast, List.append_assoc, List.drop_left, dec_enc h]
    obtain ⟨K1, h1⟩ := decode_ev (cap 100 l ++ encL r ++ cap 100 m) ((cap 100 l).length : Int) hb (by omega)
    obtain ⟨K2, h2⟩ := check_ev (encL r) (encL_bd h)
    obtain ⟨K3, h3⟩ := back_loop h (cap 100 l) (cap 100 m) hb (by omega) ((encL r).length - 1) 1 (by omega) (by omega)
    dsimp only at h1 h2 h3
    obtain ⟨k, hk⟩ : ∃ k, k = K1 + K2 + K3 + K7 := ⟨_, rfl⟩
    refine ⟨k + 1, ?_⟩
    unfold cavillaw01_UtfBack.f
    rw [if_pos m1.1, if_pos m1.2, Option.bind_some, if_pos m2.1, if_pos m2.2, Option.bind_some, encode_f, he, Option.bind_some, if_pos (by rfl), Option.bind_some, if_pos (by show (([] : List Int).length + (cap 100 l).length) < _; simp only [List.length_nil]; omega), Option.bind_some, if_pos (by show (([] : List Int) ++ cap 100 l).length + (encL r).length < _; simp only [List.nil_append]; omega), Option.bind_some, if_pos (by show ((([] : List Int) ++ cap 100 l) ++ encL r).length + (cap 100 m).length < _; simp only [List.nil_append, List.length_append]; omega), Option.bind_some]
    show (utf_Decode.f (k + 1) (([] : List Int) ++ cap 100 l ++ encL r ++ cap 100 m) ((cap 100 l).length : Int)).bind _ = _
    rw [List.nil_append, h1 (k + 1) (by omega), Option.bind_some, hd, if_pos (by rfl), if_pos rfl, if_pos rfl]
    show (utf_Check.f (k + 1) (encL r)).bind _ = _
    rw [h2 (k + 1) (by omega), Option.bind_some, check_enc h, if_pos (by rfl)]
    show (utf_Boundary.f (([] : List Int) ++ cap 100 l ++ encL r ++ cap 100 m) ((cap 100 l).length : Int)).bind _ = _
    rw [List.nil_append, bound_f hb, Option.bind_some, decide_eq_true (first_yes h (cap 100 l) (cap 100 m))]
    show cavillaw01_UtfBack.j0 (k + 1) (cap 100 l) (([] : List Int) ++ cap 100 l ++ encL r ++ cap 100 m) ((encL r).length : Int) false = _
    rw [List.nil_append]
    simp only [cavillaw01_UtfBack.j0]
    rw [if_neg (by simp)]
    exact h3 k (by omega)
  · have he : encOf r = ([], some (.no 4)) := by unfold encOf; rw [if_neg h]
    refine ⟨K7, ?_⟩
    unfold cavillaw01_UtfBack.f
    rw [if_pos m1.1, if_pos m1.2, Option.bind_some, if_pos m2.1, if_pos m2.2, Option.bind_some, encode_f, he, Option.bind_some, if_neg (by simp), if_pos (by rfl), h7 K7 (by omega)]
    rfl
end Go.Proofs.YtnpgadfoohjlnaaDoor.Plain
