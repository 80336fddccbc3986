/- UTF-8, plain: a rune's bytes, and what is decoded of them. No condition beyond what each lemma says. -/
import Derived.Test.YtnpgadfoohjlnaaDoorU0
namespace Go.Proofs.YtnpgadfoohjlnaaDoor.Plain
/-- A rune's bytes. -/
def encL (r : Int) : List Int :=
  if r < 128 then [r] else if r < 2048 then [192 + r / 64, 128 + r % 64]
  else if r < 65536 then [224 + r / 4096, 128 + r / 64 % 64, 128 + r % 64]
  else [240 + r / 262144, 128 + r / 4096 % 64, 128 + r / 64 % 64, 128 + r % 64]
theorem encL_bd {r : Int} (h : Rune r) : Bytes8 (encL r) := by
  unfold Rune at h
  unfold encL
  split
  · intro x hx; simp at hx; omega
  · split
    · intro x hx; simp at hx; omega
    · split
      · intro x hx; simp at hx; omega
      · intro x hx; simp at hx; omega
theorem encL_len (r : Int) : 1 ≤ (encL r).length ∧ (encL r).length ≤ 4 := by
  unfold encL
  repeat' split
  all_goals simp
theorem dec_enc {r : Int} (h : Rune r) (l : List Int) : decHead (encL r ++ l) = some (r, ((encL r).length : Int)) := by
  have hR := h
  unfold Rune at h
  unfold encL
  by_cases h1 : r < 128
  · have e : leadSize r = 1 := by unfold leadSize; rw [if_pos h1]
    have e2 : leadBits r = r := by unfold leadBits; rw [if_pos h1]
    simp only [if_pos h1, List.cons_append, List.nil_append, decHead, e, e2]
    rw [if_neg (by omega)]
    simp [runeOf, leastOf, hR, h.1]
  · by_cases h2 : r < 2048
    · have e : leadSize (192 + r / 64) = 2 := by unfold leadSize; rw [if_neg (by omega), if_pos (by omega)]
      have e2 : leadBits (192 + r / 64) = r / 64 := by unfold leadBits; rw [if_neg (by omega), if_pos (by omega)]; omega
      have e3 : runeOf (r / 64) [128 + r % 64] = r := by simp only [runeOf, List.foldl_cons, List.foldl_nil]; omega
      simp only [if_neg h1, if_pos h2, List.cons_append, List.nil_append, decHead, e, e2]
      have t : List.take ((2 : Int) - 1).toNat ((128 + r % 64) :: l) = [128 + r % 64] := rfl
      rw [if_neg (by rw [List.length_cons]; omega), t, e3, if_pos ⟨by intro x hx; simp at hx; subst hx; unfold cont; omega, hR, by unfold leastOf; simp; omega⟩]
      rfl
    · by_cases h3 : r < 65536
      · have e : leadSize (224 + r / 4096) = 3 := by unfold leadSize; rw [if_neg (by omega), if_neg (by omega), if_pos (by omega)]
        have e2 : leadBits (224 + r / 4096) = r / 4096 := by unfold leadBits; rw [if_neg (by omega), if_neg (by omega), if_pos (by omega)]; omega
        have e3 : runeOf (r / 4096) [128 + r / 64 % 64, 128 + r % 64] = r := by simp only [runeOf, List.foldl_cons, List.foldl_nil]; omega
        simp only [if_neg h1, if_neg h2, if_pos h3, List.cons_append, List.nil_append, decHead, e, e2]
        have t : List.take ((3 : Int) - 1).toNat ((128 + r / 64 % 64) :: (128 + r % 64) :: l) = [128 + r / 64 % 64, 128 + r % 64] := rfl
        rw [if_neg (by rw [List.length_cons, List.length_cons]; omega), t, e3, if_pos ⟨by intro x hx; simp at hx; rcases hx with rfl | rfl <;> (unfold cont; omega), hR, by unfold leastOf; simp; omega⟩]
        rfl
      · have e : leadSize (240 + r / 262144) = 4 := by unfold leadSize; rw [if_neg (by omega), if_neg (by omega), if_neg (by omega), if_pos (by omega)]
        have e2 : leadBits (240 + r / 262144) = r / 262144 := by unfold leadBits; rw [if_neg (by omega), if_neg (by omega), if_neg (by omega), if_pos (by omega)]; omega
        have e3 : runeOf (r / 262144) [128 + r / 4096 % 64, 128 + r / 64 % 64, 128 + r % 64] = r := by simp only [runeOf, List.foldl_cons, List.foldl_nil]; omega
        simp only [if_neg h1, if_neg h2, if_neg h3, List.cons_append, List.nil_append, decHead, e, e2]
        have t : List.take ((4 : Int) - 1).toNat ((128 + r / 4096 % 64) :: (128 + r / 64 % 64) :: (128 + r % 64) :: l) = [128 + r / 4096 % 64, 128 + r / 64 % 64, 128 + r % 64] := rfl
        rw [if_neg (by rw [List.length_cons, List.length_cons, List.length_cons]; omega), t, e3, if_pos ⟨by intro x hx; simp at hx; rcases hx with rfl | rfl | rfl <;> (unfold cont; omega), hR, by unfold leastOf; simp; omega⟩]
        rfl
theorem enc_dec {l : List Int} {r n : Int} (hb : Bytes8 l) (h : decHead l = some (r, n)) : Rune r ∧ encL r = l.take n.toNat ∧ n = (encL r).length := by
  cases l with
  | nil => simp [decHead] at h
  | cons c l =>
    have hc := hb c (List.mem_cons_self ..)
    simp only [decHead] at h
    split at h
    · cases h
    · rename_i h1
      split at h
      · rename_i h2
        injection h with h
        injection h with h3 h4
        obtain ⟨a, b, d⟩ := h2
        rw [h3] at b d
        refine ⟨b, ?_⟩
        unfold Rune at b
        by_cases s1 : c < 128
        · have e : leadSize c = 1 := by unfold leadSize; rw [if_pos s1]
          have e2 : leadBits c = c := by unfold leadBits; rw [if_pos s1]
          rw [e, e2] at h3
          rw [e] at h4
          subst h4
          simp [runeOf] at h3
          subst h3
          unfold encL
          rw [if_pos s1]
          simp
        · by_cases s2 : 192 ≤ c ∧ c < 224
          · have e : leadSize c = 2 := by unfold leadSize; rw [if_neg s1, if_pos s2]
            have e2 : leadBits c = c % 32 := by unfold leadBits; rw [if_neg s1, if_pos s2]
            rw [e, e2] at h3
            rw [e] at h4 h1 d a
            subst h4
            match l, h1, h3, a, hb with
            | [], h1, _, _, _ => simp at h1
            | x :: l, h1, h3, a, hb =>
              have t : List.take ((2 : Int) - 1).toNat (x :: l) = [x] := rfl
              rw [t] at h3 a
              have ax := a x (by simp)
              unfold cont at ax
              simp only [runeOf, List.foldl_cons, List.foldl_nil] at h3
              simp only [leastOf] at d
              have t2 : List.take (2 : Int).toNat (c :: x :: l) = [c, x] := rfl
              rw [t2]
              unfold encL
              rw [if_neg (by simp at d; omega), if_pos (by omega)]
              refine ⟨?_, rfl⟩
              rw [show 192 + r / 64 = c by omega, show 128 + r % 64 = x by omega]
          · by_cases s3 : 224 ≤ c ∧ c < 240
            · have e : leadSize c = 3 := by unfold leadSize; rw [if_neg s1, if_neg s2, if_pos s3]
              have e2 : leadBits c = c % 16 := by unfold leadBits; rw [if_neg s1, if_neg s2, if_pos s3]
              rw [e, e2] at h3
              rw [e] at h4 h1 d a
              subst h4
              match l, h1, h3, a, hb with
              | [], h1, _, _, _ => simp at h1
              | [_], h1, _, _, _ => simp at h1
              | x :: y :: l, h1, h3, a, hb =>
                have t : List.take ((3 : Int) - 1).toNat (x :: y :: l) = [x, y] := rfl
                rw [t] at h3 a
                have ax := a x (by simp)
                have ay := a y (by simp)
                unfold cont at ax ay
                simp only [runeOf, List.foldl_cons, List.foldl_nil] at h3
                simp [leastOf] at d
                have t2 : List.take (3 : Int).toNat (c :: x :: y :: l) = [c, x, y] := rfl
                rw [t2]
                unfold encL
                rw [if_neg (by omega), if_neg (by omega), if_pos (by omega)]
                refine ⟨?_, rfl⟩
                rw [show 224 + r / 4096 = c by omega, show 128 + r / 64 % 64 = x by omega, show 128 + r % 64 = y by omega]
            · by_cases s4 : 240 ≤ c ∧ c < 248
              · have e : leadSize c = 4 := by unfold leadSize; rw [if_neg s1, if_neg s2, if_neg s3, if_pos s4]
                have e2 : leadBits c = c % 8 := by unfold leadBits; rw [if_neg s1, if_neg s2, if_neg s3, if_pos s4]
                rw [e, e2] at h3
                rw [e] at h4 h1 d a
                subst h4
                match l, h1, h3, a, hb with
                | [], h1, _, _, _ => simp at h1
                | [_], h1, _, _, _ => simp at h1
                | [_, _], h1, _, _, _ => simp at h1
                | x :: y :: z :: l, h1, h3, a, hb =>
                  have t : List.take ((4 : Int) - 1).toNat (x :: y :: z :: l) = [x, y, z] := rfl
                  rw [t] at h3 a
                  have ax := a x (by simp)
                  have ay := a y (by simp)
                  have az := a z (by simp)
                  unfold cont at ax ay az
                  simp only [runeOf, List.foldl_cons, List.foldl_nil] at h3
                  simp [leastOf] at d
                  have t2 : List.take (4 : Int).toNat (c :: x :: y :: z :: l) = [c, x, y, z] := rfl
                  rw [t2]
                  unfold encL
                  rw [if_neg (by omega), if_neg (by omega), if_neg (by omega)]
                  refine ⟨?_, rfl⟩
                  rw [show 240 + r / 262144 = c by omega, show 128 + r / 4096 % 64 = x by omega, show 128 + r / 64 % 64 = y by omega, show 128 + r % 64 = z by omega]
              · exfalso
                apply h1
                left
                unfold leadSize
                rw [if_neg s1, if_neg s2, if_neg s3, if_neg s4]
      · cases h
theorem decHead_cons {c : Int} {l : List Int} {r n : Int} (h : decHead (c :: l) = some (r, n)) : n = leadSize c ∧ leadSize c ≠ 0 ∧ r = runeOf (leadBits c) (l.take (n - 1).toNat) ∧ n ≤ l.length + 1 := by
  simp only [decHead] at h
  split at h
  · cases h
  · rename_i h1
    split at h
    · injection h with h
      injection h with h3 h4
      subst h4
      exact ⟨rfl, fun e => h1 (.inl e), h3.symm, by omega⟩
    · cases h
/-- The bits of a first byte, where so many bytes are asked for. -/
def candBits (c n : Int) : Int := if n = 2 then c % 32 else if n = 3 then c % 16 else if n = 4 then c % 8 else c
theorem lead_cand {c n : Int} (h : leadSize c = n) (h0 : n ≠ 0) : leadBits c = candBits c n := by
  subst h
  unfold leadBits candBits leadSize at *
  repeat' split at *
  all_goals first | rfl | omega
/-- Whichever rune of at most four bytes stands at the begin, it is the one. -/
def refHead (l : List Int) : Int × Int × Int := match decHead l with
  | some (r, n) => (r, n, 0)
  | none => (0, 0, 3)
/-- Bytes behind the first one are no boundaries; the first one is. -/
theorem encL_cons {r : Int} (h : Rune r) : ∃ c l, encL r = c :: l ∧ ¬ cont c ∧ ∀ x ∈ l, cont x := by
  unfold Rune at h
  unfold encL
  by_cases h1 : r < 128
  · rw [if_pos h1]
    exact ⟨_, _, rfl, by unfold cont; omega, by simp⟩
  · rw [if_neg h1]
    by_cases h2 : r < 2048
    · rw [if_pos h2]
      exact ⟨_, _, rfl, by unfold cont; omega, by intro x hx; simp at hx; unfold cont; omega⟩
    · rw [if_neg h2]
      by_cases h3 : r < 65536
      · rw [if_pos h3]
        exact ⟨_, _, rfl, by unfold cont; omega, by intro x hx; simp at hx; unfold cont; omega⟩
      · rw [if_neg h3]
        exact ⟨_, _, rfl, by unfold cont; omega, by intro x hx; simp at hx; unfold cont; omega⟩
end Go.Proofs.YtnpgadfoohjlnaaDoor.Plain
