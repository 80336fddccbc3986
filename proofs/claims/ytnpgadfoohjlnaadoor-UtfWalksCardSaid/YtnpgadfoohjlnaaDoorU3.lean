/- UTF-8, plain: what Encode, Boundary and the document's own answers come to. No condition beyond what each lemma says. -/
import Derived.Test.YtnpgadfoohjlnaaDoorU1
import Derived.Test.YtnpgadfoohjlnaaDoorU2
import Derived.Test.YtnpgadfoohjlnaaDoorC0
import Derived.Test.YtnpgadfoohjlnaaDoorQU1
import Derived.Test.YtnpgadfoohjlnaaDoorQU3
import Derived.Test.YtnpgadfoohjlnaaDoorQU4
namespace Go.Proofs.YtnpgadfoohjlnaaDoor.Plain
open Go.RowKit Go.Proofs.YtnpgadfoohjlnaaDoorW.PrintWords Go.Proofs.YtnpgadfoohjlnaaDoorW.PrintLast Go.Proofs.YtnpgadfoohjlnaaDoorW.PrintMore Go.Proofs.YtnpgadfoohjlnaaDoor.QU

theorem sixb (x : Int) : Go.bits .or .u8 128 (Go.bits .and .u8 (IntKind.u8.wrap x) 63) = 128 + x % 64 := by
  have e : IntKind.u8.wrap x = x % 256 := by simp [IntKind.wrap, IntKind.signed, IntKind.bits]
  rw [e, and_63 _ (by omega) (by omega), show x % 256 % 64 = x % 64 by omega]
  have h : ∀ n : Fin 64, Go.bits .or .u8 128 ((n.val : Nat) : Int) = 128 + ((n.val : Nat) : Int) := by decide +kernel
  obtain ⟨n, hn⟩ := Int.eq_ofNat_of_zero_le (a := x % 64) (by omega)
  rw [hn]
  exact h ⟨n, by omega⟩
/-- What Encode comes to. -/
def encOf (r : Int) : List Int × Option Er := if Rune r then (encL r, none) else ([], some (.no 4))
theorem encode_f (r : Int) : utf_Encode.f r = some (encOf r) := by
  unfold utf_Encode.f encOf
  rw [valid_f, Option.bind_some]
  by_cases h : Rune r
  · rw [if_pos (decide_eq_true h), if_pos h]
    have h0 := h
    unfold Rune at h0
    simp only [sixb]
    unfold encL
    by_cases a : r < 128
    · rw [if_pos a, if_pos a]
      rw [show r % 256 = r by omega]
    · rw [if_neg a, if_neg a]
      by_cases b : r < 2048
      · rw [if_neg (by omega), if_neg (by omega), if_pos b]
      · by_cases c : r < 65536
        · rw [if_neg (by omega), if_pos (by omega), if_neg b, if_pos c]
        · rw [if_pos (by omega), if_neg b, if_neg c]
  · rw [if_neg (by simp [h]), if_neg h]
theorem rune_f (r : Int) : cavilref01_Rune.f r = some (decide (Rune r)) := valid_f r
theorem rbytes_f {r : Int} (h : Rune r) : cavilref01_Bytes.f r = some (encL r) := by
  unfold Rune at h
  have d (n : Int) : Int.tdiv r n = r / n := Int.tdiv_eq_ediv_of_nonneg h.1
  have m (n : Int) : Int.tmod r n = r % n := Int.tmod_eq_emod_of_nonneg h.1
  unfold cavilref01_Bytes.f encL
  simp only [d, m]
  by_cases a : r < 128
  · rw [if_pos a, if_pos a, show r % 256 = r by omega]
  · rw [if_neg a, if_neg a]
    have e64 : wrap64 (r / 64) = r / 64 := w64_id (by omega) (by omega)
    have t64 : Int.tmod (r / 64) 64 = r / 64 % 64 := Int.tmod_eq_emod_of_nonneg (by omega)
    have e4096 : wrap64 (r / 4096) = r / 4096 := w64_id (by omega) (by omega)
    have t4096 : Int.tmod (r / 4096) 64 = r / 4096 % 64 := Int.tmod_eq_emod_of_nonneg (by omega)
    have e26 : wrap64 (r / 262144) = r / 262144 := w64_id (by omega) (by omega)
    rw [e64, e4096, e26, t64, t4096]
    have q1 : wrap64 (128 + r % 64) % 256 = 128 + r % 64 := by rw [w64_id (by omega) (by omega)]; omega
    have q2 : wrap64 (128 + r / 64 % 64) % 256 = 128 + r / 64 % 64 := by rw [w64_id (by omega) (by omega)]; omega
    have q3 : wrap64 (128 + r / 4096 % 64) % 256 = 128 + r / 4096 % 64 := by rw [w64_id (by omega) (by omega)]; omega
    rw [q1, q2, q3]
    by_cases b : r < 2048
    · rw [if_pos b, if_pos b, w64_id (a := 192 + r / 64) (by omega) (by omega), show (192 + r / 64) % 256 = 192 + r / 64 by omega]
    · rw [if_neg b, if_neg b]
      by_cases c : r < 65536
      · rw [if_pos c, if_pos c, w64_id (a := 224 + r / 4096) (by omega) (by omega), show (224 + r / 4096) % 256 = 224 + r / 4096 by omega]
      · rw [if_neg c, if_neg c, w64_id (a := 240 + r / 262144) (by omega) (by omega), show (240 + r / 262144) % 256 = 240 + r / 262144 by omega]
/-- What Boundary comes to. -/
def isBound (l : List Int) (a : Int) : Prop := a = l.length ∨ (0 ≤ a ∧ a < l.length ∧ ¬ cont (rd l a))
instance (l : List Int) (a : Int) : Decidable (isBound l a) := by unfold isBound; infer_instance
theorem rd_bd {l : List Int} (h : Bytes8 l) (a : Int) (h0 : 0 ≤ a) (h1 : a < l.length) : 0 ≤ rd l a ∧ rd l a ≤ 255 := by
  obtain ⟨i, rfl⟩ := Int.eq_ofNat_of_zero_le h0
  rw [rd_nat l i (by omega)]
  exact h.at i (by omega)
theorem bound_f {l : List Int} (h : Bytes8 l) (a : Int) : utf_Boundary.f l a = some (decide (isBound l a)) := by
  unfold utf_Boundary.f
  by_cases q : a = (l.length : Int)
  · rw [if_pos q, decide_eq_true (show isBound l a from .inl q)]
  · rw [if_neg q]
    by_cases s : a < 0
    · rw [if_pos s, decide_eq_false (fun e => by unfold isBound at e; omega)]
    · rw [if_neg s]
      by_cases t : a > (l.length : Int)
      · rw [if_pos t, decide_eq_false (fun e => by unfold isBound at e; omega)]
      · rw [if_neg t, if_pos (by omega), if_pos (by omega)]
        have hb := rd_bd h a (by omega) (by omega)
        by_cases c : cont (rd l a)
        · rw [decide_eq_false (fun e => by unfold isBound at e; rcases e with e | ⟨_, _, e⟩; exact q e; exact e c)]
          unfold cont at c
          rw [if_neg (by omega), if_neg (by omega), if_neg (by omega)]
        · rw [decide_eq_true (show isBound l a from .inr ⟨by omega, by omega, c⟩)]
          unfold cont at c
          by_cases c0 : rd l a / 64 = 0
          · rw [if_pos c0]
          · rw [if_neg c0]
            by_cases c1 : rd l a / 64 = 1
            · rw [if_pos c1]
            · rw [if_neg c1, if_pos (by omega)]
/-- The bits of a candidate, from a place in it on. -/
theorem rdec_inner (l : List Int) (i s : Nat) (hb : Bytes8 l) (hl : l.length ≤ 20000000) (hs : i + s ≤ l.length) (R : Int × Int × Int) :
    ∀ (d j : Nat) (r : Int), j + d = s → 1 ≤ j → 0 ≤ r → (d = 0 ∧ r < 67108864 ∨ d = 1 ∧ r < 1048576 ∨ d = 2 ∧ r < 16384 ∨ d = 3 ∧ r < 256) →
      (Rune (runeOf r ((l.drop (i + j)).take d)) ∧ encL (runeOf r ((l.drop (i + j)).take d)) = (l.drop i).take s → R = (runeOf r ((l.drop (i + j)).take d), (s : Int), 0)) →
      (¬ (Rune (runeOf r ((l.drop (i + j)).take d)) ∧ encL (runeOf r ((l.drop (i + j)).take d)) = (l.drop i).take s) → Ev (fun k => cavilref01_Decode.l0 k l (i : Int) ((s + 1 : Nat) : Int)) R) →
      Ev (fun k => cavilref01_Decode.l1 k l (i : Int) (s : Int) r (j : Int)) R
  | 0, j, r, h, hj, h0, hr, hit, miss => by
    have e : runeOf r ((l.drop (i + j)).take 0) = r := by rw [List.take_zero]; rfl
    rw [e] at hit miss
    have hbt : Bytes8 ((l.drop i).take s) := (hb.drop _).take _
    have e1 : wrap64 ((i : Int) + (s : Int)) = ((i + s : Nat) : Int) := by rw [w64_id (by omega) (by omega)]; omega
    have e2 : wrap64 ((s : Int) + 1) = ((s + 1 : Nat) : Int) := by rw [w64_id (by omega) (by omega)]; omega
    have e3 : (l.take (i + s)).drop i = (l.drop i).take s := by rw [List.drop_take, show i + s - i = s by omega]
    by_cases q : Rune r
    · by_cases p : encL r = (l.drop i).take s
      · rw [hit ⟨q, p⟩]
        refine evConst fun k => ?_
        simp only [cavilref01_Decode.l1]
        rw [if_neg (by omega), rune_f, Option.bind_some, if_pos (decide_eq_true q), rbytes_f q, Option.bind_some, e1, if_pos (by omega), if_pos (by omega), if_pos (by omega), Int.toNat_natCast, Int.toNat_natCast, e3, if_pos ((str_toList (encL_bd q) hbt).2 p)]
      · refine evNext (miss (fun h => p h.2)) (fun k => ?_)
        simp only [cavilref01_Decode.l1]
        rw [if_neg (by omega), rune_f, Option.bind_some, if_pos (decide_eq_true q), rbytes_f q, Option.bind_some, e1, if_pos (by omega), if_pos (by omega), if_pos (by omega), Int.toNat_natCast, Int.toNat_natCast, e3, if_neg (fun h => p ((str_toList (encL_bd q) hbt).1 h)), e2]
    · refine evNext (miss (fun h => q h.1)) (fun k => ?_)
      simp only [cavilref01_Decode.l1]
      rw [if_neg (by omega), rune_f, Option.bind_some, if_neg (by simp [q]), e2]
  | d + 1, j, r, h, hj, h0, hr, hit, miss => by
    have hij : i + j < l.length := by omega
    have hc := hb.at (i + j) hij
    have e0 : wrap64 ((i : Int) + (j : Int)) = ((i + j : Nat) : Int) := by rw [w64_id (by omega) (by omega)]; omega
    have e1 : wrap64 ((j : Int) + 1) = ((j + 1 : Nat) : Int) := by rw [w64_id (by omega) (by omega)]; omega
    have e2 : wrap64 l[i + j] = l[i + j] := w64_id (by omega) (by omega)
    have e3 : Int.tmod l[i + j] 64 = l[i + j] % 64 := Int.tmod_eq_emod_of_nonneg (by omega)
    have e4 : wrap64 (wrap64 (r * 64) + l[i + j] % 64) = r * 64 + l[i + j] % 64 := by
      rw [w64_id (a := r * 64) (by omega) (by omega), w64_id (by omega) (by omega)]
    have e5 : runeOf r ((l.drop (i + j)).take (d + 1)) = runeOf (r * 64 + l[i + j] % 64) ((l.drop (i + (j + 1))).take d) := by
      rw [List.drop_eq_getElem_cons hij, List.take_succ_cons]
      rfl
    rw [e5] at hit miss
    refine evNext (rdec_inner l i s hb hl hs R d (j + 1) (r * 64 + l[i + j] % 64) (by omega) (by omega) (by omega) (by omega) hit miss) (fun k => ?_)
    simp only [cavilref01_Decode.l1]
    rw [if_pos (by omega), e0, if_pos (by omega), if_pos (by omega), rd_nat l (i + j) hij, e2, e3, e4, e1]
/-- The document's Decode, from a size on. -/
theorem rdec_sizes (l : List Int) (i : Nat) (hb : Bytes8 l) (hl : l.length ≤ 20000000) (hi : i < l.length) :
    ∀ (d s : Nat), s + d = 5 → 1 ≤ s → (∀ r n, decHead (l.drop i) = some (r, n) → (s : Int) ≤ n) → Ev (fun k => cavilref01_Decode.l0 k l (i : Int) (s : Int)) (refHead (l.drop i))
  | 0, s, h, h1, hm => by
    have e : refHead (l.drop i) = (0, 0, 3) := by
      unfold refHead
      cases q : decHead (l.drop i) with
      | none => rfl
      | some p =>
        obtain ⟨r, n⟩ := p
        have := decHead_size q
        have := hm r n q
        omega
    rw [e]
    refine evNext (f := fun k => cavilref01_Decode.j2 k l (i : Int) (s : Int) false) (evConst fun k => ?_) (fun k => ?_)
    · simp only [cavilref01_Decode.j2]
      rw [if_neg (by simp)]
    · simp only [cavilref01_Decode.l0]
      rw [if_neg (by omega)]
  | d + 1, s, h, h1, hm => by
    have ew : wrap64 ((l.length : Int) - (i : Int)) = (l.length : Int) - (i : Int) := w64_id (by omega) (by omega)
    by_cases hs : i + s ≤ l.length
    · have hc := hb.at i hi
      have hd : l.drop i = l[i] :: l.drop (i + 1) := List.drop_eq_getElem_cons hi
      have e2 : wrap64 l[i] = l[i] := w64_id (by omega) (by omega)
      have m32 : Int.tmod l[i] 32 = l[i] % 32 := Int.tmod_eq_emod_of_nonneg (by omega)
      have m16 : Int.tmod l[i] 16 = l[i] % 16 := Int.tmod_eq_emod_of_nonneg (by omega)
      have m8 : Int.tmod l[i] 8 = l[i] % 8 := Int.tmod_eq_emod_of_nonneg (by omega)
      have key : Ev (fun k => cavilref01_Decode.l1 k l (i : Int) (s : Int) (candBits l[i] (s : Int)) ((1 : Nat) : Int)) (refHead (l.drop i)) := by
        refine rdec_inner l i s hb hl hs (refHead (l.drop i)) (s - 1) 1 (candBits l[i] (s : Int)) (by omega) (by omega) (by unfold candBits; repeat' split; all_goals omega) (by unfold candBits; repeat' split; all_goals omega) ?_ ?_
        · rintro ⟨q, p⟩
          have e : l.drop i = encL (runeOf (candBits l[i] (s : Int)) ((l.drop (i + 1)).take (s - 1))) ++ (l.drop i).drop s := by
            rw [p, List.take_append_drop]
          have := dec_enc q ((l.drop i).drop s)
          rw [← e] at this
          have en : (encL (runeOf (candBits l[i] (s : Int)) ((l.drop (i + 1)).take (s - 1)))).length = s := by
            rw [p, List.length_take, List.length_drop]
            omega
          unfold refHead
          rw [this, en]
        · intro no
          refine rdec_sizes l i hb hl hi d (s + 1) (by omega) (by omega) ?_
          intro r n hq
          have h5 := hm r n hq
          rcases Int.lt_or_le (s : Int) n with h6 | h6
          · omega
          · exfalso
            obtain rfl : n = (s : Int) := by omega
            have h7 := enc_dec (hb.drop i) hq
            rw [hd] at hq
            have h8 := decHead_cons hq
            have h9 := lead_cand h8.1.symm (by omega)
            apply no
            rw [h9, show ((s : Int) - 1).toNat = s - 1 by omega] at h8
            rw [← h8.2.2.1, Int.toNat_natCast] at *
            exact ⟨h7.1, h7.2.1⟩
      refine evNext (f := fun k => cavilref01_Decode.j2 k l (i : Int) (s : Int) true) ?_ (fun k => by simp only [cavilref01_Decode.l0]; rw [if_pos (by omega), ew, decide_eq_true (by omega)])
      refine evNext (f := fun k => if (s : Int) = 2 then cavilref01_Decode.j3 k l (i : Int) (s : Int) (l[i] % 32) else cavilref01_Decode.j3 k l (i : Int) (s : Int) l[i]) ?_ (fun k => by simp only [cavilref01_Decode.j2]; rw [if_pos trivial, if_pos (by omega), if_pos (by omega), rd_nat l i hi, e2, m32])
      have last : ∀ r : Int, r = candBits l[i] (s : Int) → Ev (fun k => cavilref01_Decode.j5 k l (i : Int) (s : Int) r) (refHead (l.drop i)) := by
        rintro r rfl
        exact evNext key (fun k => by simp only [cavilref01_Decode.j5]; rfl)
      by_cases s2 : (s : Int) = 2
      · refine evCong (f := fun k => cavilref01_Decode.j3 k l (i : Int) (s : Int) (l[i] % 32)) ?_ (fun k => if_pos s2)
        refine evNext (f := fun k => cavilref01_Decode.j4 k l (i : Int) (s : Int) (l[i] % 32)) ?_ (fun k => by simp only [cavilref01_Decode.j3]; rw [if_neg (by omega)])
        exact evNext (last _ (by unfold candBits; rw [if_pos s2])) (fun k => by simp only [cavilref01_Decode.j4]; rw [if_neg (by omega)])
      · refine evCong (f := fun k => cavilref01_Decode.j3 k l (i : Int) (s : Int) l[i]) ?_ (fun k => if_neg s2)
        by_cases s3 : (s : Int) = 3
        · refine evNext (f := fun k => cavilref01_Decode.j4 k l (i : Int) (s : Int) (l[i] % 16)) ?_ (fun k => by simp only [cavilref01_Decode.j3]; rw [if_pos s3, m16])
          exact evNext (last _ (by unfold candBits; rw [if_neg s2, if_pos s3])) (fun k => by simp only [cavilref01_Decode.j4]; rw [if_neg (by omega)])
        · refine evNext (f := fun k => cavilref01_Decode.j4 k l (i : Int) (s : Int) l[i]) ?_ (fun k => by simp only [cavilref01_Decode.j3]; rw [if_neg s3])
          by_cases s4 : (s : Int) = 4
          · exact evNext (last _ (by unfold candBits; rw [if_neg s2, if_neg s3, if_pos s4])) (fun k => by simp only [cavilref01_Decode.j4]; rw [if_pos s4, m8])
          · exact evNext (last _ (by unfold candBits; rw [if_neg s2, if_neg s3, if_neg s4])) (fun k => by simp only [cavilref01_Decode.j4]; rw [if_neg s4])
    · have e : refHead (l.drop i) = (0, 0, 3) := by
        unfold refHead
        cases q : decHead (l.drop i) with
        | none => rfl
        | some p =>
          obtain ⟨r, n⟩ := p
          have h5 := decHead_size q
          rw [List.length_drop] at h5
          have := hm r n q
          omega
      rw [e]
      refine evNext (f := fun k => cavilref01_Decode.j2 k l (i : Int) (s : Int) false) (evConst fun k => ?_) (fun k => ?_)
      · simp only [cavilref01_Decode.j2]
        rw [if_neg (by simp)]
      · simp only [cavilref01_Decode.l0]
        rw [if_pos (by omega), ew, decide_eq_false (by omega)]
/-- What the document's Decode comes to. -/
def rdecode (l : List Int) (a : Int) : Int × Int × Int := if a < 0 ∨ (l.length : Int) ≤ a then (0, 0, 4) else refHead (l.drop a.toNat)
theorem rdecode_ev (l : List Int) (a : Int) (hb : Bytes8 l) (hl : l.length ≤ 20000000) : Ev (fun k => cavilref01_Decode.f k l a) (rdecode l a) := by
  have bad : Ev (fun k => cavilref01_Decode.j0 k l a true) (0, 0, 4) := by
    refine evConst fun k => ?_
    simp only [cavilref01_Decode.j0]
    rw [if_pos trivial]
  unfold rdecode
  by_cases h : a < 0 ∨ (l.length : Int) ≤ a
  · rw [if_pos h]
    refine evCong bad (fun k => ?_)
    unfold cavilref01_Decode.f
    by_cases h2 : a < 0
    · rw [if_pos h2]
    · rw [if_neg h2, decide_eq_true (by omega)]
  · rw [if_neg h]
    obtain ⟨i, rfl⟩ := Int.eq_ofNat_of_zero_le (a := a) (by omega)
    rw [Int.toNat_natCast]
    refine evCong (f := fun k => cavilref01_Decode.j0 k l (i : Int) false) ?_ (fun k => by unfold cavilref01_Decode.f; rw [if_neg (by omega), decide_eq_false (by omega)])
    refine evNext (rdec_sizes l i hb hl (by omega) 4 1 (by omega) (by omega) (fun r n hq => (decHead_size hq).1)) (fun k => ?_)
    simp only [cavilref01_Decode.j0]
    rw [if_neg (by simp)]
    rfl
end Go.Proofs.YtnpgadfoohjlnaaDoor.Plain
