/- UtfWalks, plain: for every list of bytes the law returns true. No condition beyond that the elements are bytes. -/
import Derived.Test.YtnpgadfoohjlnaaDoorU6
import Derived.Test.YtnpgadfoohjlnaaDoorQU6
namespace Go.Proofs.YtnpgadfoohjlnaaDoor.Plain
open Go.RowKit Go.Proofs.YtnpgadfoohjlnaaDoorW.PrintWords Go.Proofs.YtnpgadfoohjlnaaDoorW.PrintLast Go.Proofs.YtnpgadfoohjlnaaDoorW.PrintMore Go.Proofs.YtnpgadfoohjlnaaDoor.QU

/-- Inside a rune there is no boundary, at its begin there is one. -/
theorem rune_bounds {l : List Int} {i : Nat} {r n : Int} (hb : Bytes8 l) (h : decHead (l.drop i) = some (r, n)) : isBound l (i : Int) ∧ ∀ j : Nat, 1 ≤ j → (j : Int) < n → ¬ isBound l ((i + j : Nat) : Int) := by
  have h1 := enc_dec (hb.drop i) h
  have h2 := decHead_size h
  rw [List.length_drop] at h2
  have e : l = l.take i ++ encL r ++ (l.drop i).drop n.toNat := by
    rw [h1.2.1, List.append_assoc, List.take_append_drop, List.take_append_drop]
  have hi : (l.take i).length = i := by rw [List.length_take]; omega
  constructor
  · have := first_yes h1.1 (l.take i) ((l.drop i).drop n.toNat)
    rw [← e, hi] at this
    exact this
  · intro j hj hn
    have := inner_no h1.1 (l.take i) ((l.drop i).drop n.toNat) j hj (by omega)
    rw [← e, hi] at this
    exact this
theorem walks_inner {l : List Int} {i : Nat} {r n : Int} (hb : Bytes8 l) (hl : l.length ≤ 300) (h : decHead (l.drop i) = some (r, n)) (acc : List Int) (m : Int) (ha : acc.length = i)
    (next : Ev (fun k => cavillaw01_UtfWalks.l0 k l (acc ++ encL r) (wrap64 (m + 1)) (wrap64 ((i : Int) + n))) true) :
    ∀ (d j : Nat), ((j + d : Nat) : Int) = n → 1 ≤ j → Ev (fun k => cavillaw01_UtfWalks.l1 k l acc m (i : Int) n (encL r) (j : Int)) true
  | 0, j, e, h1 => by
    have hel := encL_len r
    have h2 := decHead_size h
    rw [List.length_drop] at h2
    refine evNext next (fun k => ?_)
    simp only [cavillaw01_UtfWalks.l1]
    rw [if_neg (by omega), if_pos (by omega)]
  | d + 1, j, e, h1 => by
    have h2 := decHead_size h
    rw [List.length_drop] at h2
    have e1 : wrap64 ((i : Int) + (j : Int)) = ((i + j : Nat) : Int) := by rw [w64_id (by omega) (by omega)]; omega
    have e2 : wrap64 ((j : Int) + 1) = ((j + 1 : Nat) : Int) := by rw [w64_id (by omega) (by omega)]; omega
    refine evNext (walks_inner hb hl h acc m ha next d (j + 1) (by omega) (by omega)) (fun k => ?_)
    simp only [cavillaw01_UtfWalks.l1]
    rw [if_pos (by omega), e1, bound_f hb, Option.bind_some, if_neg (by rw [decide_eq_false ((rune_bounds hb h).2 j h1 (by omega))]; simp), e2]
theorem walks_loop (l : List Int) (hb : Bytes8 l) (hl : l.length ≤ 300) (M : Int) (hc : countOf l = (M, none)) : ∀ (f i : Nat) (m : Int), i ≤ l.length → l.length ≤ i + f → 0 ≤ m → m ≤ i → walkL f (l.drop i) m (i : Int) = (M, (l.length : Int)) → Ev (fun k => cavillaw01_UtfWalks.l0 k l (l.take i) m (i : Int)) true
  | 0, i, m, hi, hf, m0, m1, hw => by
    obtain rfl : i = l.length := by omega
    have hM : m = M := by
      have e : walkL 0 (l.drop l.length) m (l.length : Int) = (m, (l.length : Int)) := rfl
      rw [e] at hw
      exact congrArg Prod.fst hw
    subst hM
    obtain ⟨K1, h1⟩ := count_ev l hb (by omega)
    obtain ⟨K2, h2⟩ := works_ev
    dsimp only at h1 h2
    refine ⟨K1 + K2 + 1, fun k hk => ?_⟩
    obtain ⟨k, rfl⟩ : ∃ k', k = k' + 1 := ⟨k - 1, by omega⟩
    simp only [cavillaw01_UtfWalks.l0]
    rw [if_neg (by omega), h1 k (by omega), Option.bind_some, hc, List.take_length, equal_f hb hb, Option.bind_some, if_pos (by simp), if_pos rfl, if_pos (by rfl), bound_f hb, Option.bind_some, decide_eq_true (show isBound l (l.length : Int) from .inl rfl), if_pos rfl, h2 k (by omega)]
    rfl
  | f + 1, i, m, hi, hf, m0, m1, hw => by
    by_cases c : i < l.length
    · cases h : decHead (l.drop i) with
      | none =>
        rw [walkL_none h] at hw
        have := congrArg Prod.snd hw
        dsimp only at this
        omega
      | some p =>
        obtain ⟨r, n⟩ := p
        have h1 := decHead_size h
        have h3 := enc_dec (hb.drop i) h
        rw [List.length_drop] at h1
        obtain ⟨j, rfl⟩ := Int.eq_ofNat_of_zero_le (a := n) (by omega)
        rw [walkL_some h, List.drop_drop, Int.toNat_natCast, ← Int.natCast_add] at hw
        have ih := walks_loop l hb hl M hc f (i + j) (m + 1) (by omega) (by omega) (by omega) (by omega) hw
        have e1 : wrap64 (m + 1) = m + 1 := w64_id (by omega) (by omega)
        have e2 : wrap64 ((i : Int) + (j : Int)) = ((i + j : Nat) : Int) := by rw [w64_id (by omega) (by omega)]; omega
        have e3 : l.take (i + j) = l.take i ++ encL r := by
          rw [h3.2.1, Int.toNat_natCast, List.take_add]
        have ha : (l.take i).length = i := by rw [List.length_take]; omega
        have hd : decode l (i : Int) = (r, (j : Int), none) := by
          unfold decode
          rw [if_neg (by omega), Int.toNat_natCast, h]
        have he : encOf r = (encL r, none) := by unfold encOf; rw [if_pos h3.1]
        rw [e3, ← e1, ← e2] at ih
        have inner := walks_inner hb hl h (l.take i) m ha ih (j - 1) 1 (by omega) (by omega)
        refine evNext (f := fun k => (utf_Decode.f k l (i : Int)).bind fun b => (utf_Encode.f b.1).bind fun b2 => if b.2.2.isNone = true then (if b2.2.isNone = true then (if b.2.1 < 1 then cavillaw01_UtfWalks.j1 k l (l.take i) m (i : Int) b.2.1 b2.1 true else (if b.2.1 = (b2.1.length : Int) then (utf_Boundary.f l (i : Int)).bind fun t => cavillaw01_UtfWalks.j1 k l (l.take i) m (i : Int) b.2.1 b2.1 (!t) else cavillaw01_UtfWalks.j1 k l (l.take i) m (i : Int) b.2.1 b2.1 true)) else cavillaw01_UtfWalks.j1 k l (l.take i) m (i : Int) b.2.1 b2.1 true) else cavillaw01_UtfWalks.j1 k l (l.take i) m (i : Int) b.2.1 b2.1 true) ?_ (fun k => by simp only [cavillaw01_UtfWalks.l0]; rw [if_pos (by omega)])
        obtain ⟨K1, g1⟩ := decode_ev l (i : Int) hb (by omega)
        obtain ⟨K2, g2⟩ := inner
        dsimp only at g1 g2
        refine ⟨K1 + K2 + 1, fun k hk => ?_⟩
        obtain ⟨k, rfl⟩ : ∃ k', k = k' + 1 := ⟨k - 1, by omega⟩
        dsimp only
        rw [g1 (k + 1) (by omega), hd, Option.bind_some, encode_f, he, Option.bind_some, if_pos (by rfl), if_pos (by rfl), if_neg (by show ¬ (j : Int) < 1; omega), if_pos (by exact h3.2.2), bound_f hb, Option.bind_some, decide_eq_true (rune_bounds hb h).1]
        simp only [cavillaw01_UtfWalks.j1]
        rw [if_neg (by simp)]
        exact g2 k (by omega)
    · have hi2 : i = l.length := by omega
      have e : walkL (f + 1) (l.drop i) m (i : Int) = walkL 0 (l.drop i) m (i : Int) := by
        rw [List.drop_of_length_le (by omega)]
        rfl
      rw [e] at hw
      exact walks_loop l hb hl M hc 0 i m hi (by omega) m0 m1 hw
theorem UtfWalks (l : List Int) (hb : Bytes8 l) : ∃ k, cavillaw01_UtfWalks.f k l = some true := by
  have hm := mn0 (n := 300) (by omega) l
  have hy : Bytes8 (cap 300 l) := hb.take _
  have hn := cap_len (n := 300) (by omega) l
  obtain ⟨K1, h1⟩ := check_ev (cap 300 l) hy
  obtain ⟨K2, h2⟩ := works_ev
  dsimp only at h1 h2
  cases hc : checkOf (cap 300 l) with
  | some e =>
    refine ⟨K1 + K2, ?_⟩
    unfold cavillaw01_UtfWalks.f
    rw [if_pos hm.1, if_pos hm.2, Option.bind_some]
    show (utf_Check.f (K1 + K2) (cap 300 l)).bind _ = _
    rw [h1 (K1 + K2) (by omega), Option.bind_some, hc, if_neg (by simp), h2 (K1 + K2) (by omega)]
    rfl
  | none =>
    have hcnt : countOf (cap 300 l) = ((walkL (cap 300 l).length (cap 300 l) 0 0).1, none) := by simp only [countOf, hc]
    have hend : (walkL (cap 300 l).length (cap 300 l) 0 0).2 = ((cap 300 l).length : Int) := by
      unfold checkOf at hc
      rw [if_neg (by omega)] at hc
      have hbd := walkL_bd (cap 300 l).length (cap 300 l) 0 0
      by_cases q : (walkL (cap 300 l).length (cap 300 l) 0 0).2 < ((cap 300 l).length : Int)
      · rw [if_pos q] at hc
        cases hc
      · omega
    obtain ⟨K3, h3⟩ := walks_loop (cap 300 l) hy (by omega) _ hcnt (cap 300 l).length 0 0 (by omega) (by omega) (by omega) (by omega) (by show walkL (cap 300 l).length (cap 300 l) 0 0 = _; rw [← hend])
    dsimp only at h3
    refine ⟨K1 + K2 + K3, ?_⟩
    unfold cavillaw01_UtfWalks.f
    rw [if_pos hm.1, if_pos hm.2, Option.bind_some]
    show (utf_Check.f (K1 + K2 + K3) (cap 300 l)).bind _ = _
    rw [h1 (K1 + K2 + K3) (by omega), Option.bind_some, hc, if_pos (by rfl)]
    exact h3 _ (by omega)
end Go.Proofs.YtnpgadfoohjlnaaDoor.Plain
