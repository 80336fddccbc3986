/- why, plain: a demand's text; the decimal numeral is of its number alone. No condition beyond what each lemma says. -/
import Derived.Test.YtnpgadfoohjlnabDoorR0
import Derived.Test.YtnpgadfoohjlnabDoorQK2
import Derived.Test.YtnpgadfoohjlnabDoorQK6
import Derived.Test.YtnpgadfoohjlnabDoorQK1
namespace Go.Proofs.YtnpgadfoohjlnabDoor.Plain
open Go.RowKit Go.Proofs.YtnpgadfoohjlnabDoorW.PrintWords Go.Proofs.YtnpgadfoohjlnabDoorW.PrintLast Go.Proofs.YtnpgadfoohjlnabDoorW.PrintMore Go.Proofs.YtnpgadfoohjlnabDoor.QK

/-! decimal numerals -/
def decVal (l : List UInt8) : Nat := l.foldl (fun n b => n * 10 + (b.toNat - 48)) 0
theorem decVal_dec (u : Nat) : decVal (Lib.decDigits u) = u := by
  induction u using Nat.strongRecOn with
  | _ u ih =>
    rw [Lib.decDigits]
    split
    · rename_i h
      show 0 * 10 + ((UInt8.ofNat (48 + u)).toNat - 48) = u
      rw [UInt8.toNat_ofNat']
      omega
    · rename_i h
      have := ih (u / 10) (by omega)
      rw [decVal, List.foldl_append]
      rw [decVal] at this
      rw [this]
      show u / 10 * 10 + ((UInt8.ofNat (48 + u % 10)).toNat - 48) = u
      rw [UInt8.toNat_ofNat']
      omega
theorem dec_inj {u v : Nat} (h : Lib.decDigits u = Lib.decDigits v) : u = v := by rw [← decVal_dec u, h, decVal_dec]
theorem dec_len (u : Nat) (h : u < 18446744073709551616) : (Lib.decDigits u).length ≤ 20 := by
  rw [Lib.decDigits_length]
  rcases Nat.eq_zero_or_pos u with rfl | hu
  · rw [Lib.nDigits_small (by omega)]; omega
  · have := Lib.numDigits_eq u hu h
    split at this <;> omega
/-! bytes -/
theorem bytes_app (a b : List UInt8) : ((⟨a.toArray⟩ : ByteArray) ++ (⟨b.toArray⟩ : ByteArray)) = ⟨(a ++ b).toArray⟩ := by
  apply ByteArray.ext
  rw [ByteArray.data_append]
  simp
theorem bytes_list (a : List UInt8) : (⟨a.toArray⟩ : ByteArray).toList = a := by rw [ByteArray.toList_eq]
theorem bytes_size (a : List UInt8) : (⟨a.toArray⟩ : ByteArray).size = a.length := by show a.toArray.size = _; simp
/-! a demand's text -/
def stepT (n : Int) : List UInt8 :=
  if n ≥ 0 then [97, 114, 103, 117, 109, 101, 110, 116, 32] ++ Lib.decDigits (n + 1).toNat
  else if n = -1 then [103, 105, 118, 101, 110, 32, 116, 121, 112, 101, 32, 97, 114, 103, 117, 109, 101, 110, 116]
  else [98, 111, 117, 110, 100, 32, 111, 102, 32, 116, 121, 112, 101, 32, 112, 97, 114, 97, 109, 101, 116, 101, 114, 32] ++ Lib.decDigits (-(n + 1)).toNat
theorem fu_f (u : Int) (h0 : 0 ≤ u) (h1 : u < 18446744073709551616) : strconv_FormatUint_55.f u 10 = some ⟨(Lib.decDigits u.toNat).toArray⟩ := by
  unfold strconv_FormatUint_55.f
  rw [if_pos ⟨rfl, h0, h1⟩]
theorem step_f (n : Int) (h0 : -9223372036854775808 ≤ n) (h1 : n ≤ 9223372036854775807) : why_Step.f n = some ⟨(stepT n).toArray⟩ := by
  unfold why_Step.f stepT
  by_cases c : n ≥ 0
  · rw [if_pos c, if_pos c, show IntKind.u64.wrap (IntKind.u64.wrap n + 1) = n + 1 by simp only [IntKind.wrap_u64]; omega, fu_f _ (by omega) (by omega), Option.bind_some]
    have := dec_len (n + 1).toNat (by omega)
    rw [bytes_size, if_pos (by omega), ← bytes_app]
  · rw [if_neg c, if_neg c]
    by_cases c1 : n = -1
    · rw [if_pos c1, if_pos c1]
    · rw [if_neg c1, if_neg c1, show IntKind.u64.wrap (wrap64 (-(wrap64 (n + 1)))) = -(n + 1) by simp only [IntKind.wrap_u64]; unfold wrap64; omega, fu_f _ (by omega) (by omega), Option.bind_some]
      have := dec_len (-(n + 1)).toNat (by omega)
      rw [bytes_size, if_pos (by omega), ← bytes_app]
theorem stepT_inj {m n : Int} (h : stepT m = stepT n) : m = n := by
  unfold stepT at h
  by_cases c : m ≥ 0
  · rw [if_pos c] at h
    by_cases d : n ≥ 0
    · rw [if_pos d] at h
      have := dec_inj (List.append_cancel_left h)
      omega
    · rw [if_neg d] at h
      split at h <;> simp at h
  · rw [if_neg c] at h
    by_cases c1 : m = -1
    · rw [if_pos c1] at h
      by_cases d : n ≥ 0
      · rw [if_pos d] at h; simp at h
      · rw [if_neg d] at h
        by_cases d1 : n = -1
        · omega
        · rw [if_neg d1] at h; simp at h
    · rw [if_neg c1] at h
      by_cases d : n ≥ 0
      · rw [if_pos d] at h; simp at h
      · rw [if_neg d] at h
        by_cases d1 : n = -1
        · rw [if_pos d1] at h; simp at h
        · rw [if_neg d1] at h
          have := dec_inj (List.append_cancel_left h)
          omega
theorem step_m3 : why_Step.f (-3) = some ⟨#[98, 111, 117, 110, 100, 32, 111, 102, 32, 116, 121, 112, 101, 32, 112, 97, 114, 97, 109, 101, 116, 101, 114, 32, 50]⟩ := by
  rw [step_f _ (by omega) (by omega)]
  unfold stepT
  rw [if_neg (by omega), if_neg (by omega), show (-((-3 : Int) + 1)).toNat = 2 from rfl, Lib.decDigits_one (by omega)]
  rfl
theorem works_f : cavillaw33_works.f = some true := by
  have e : why_Text.f (⟨#[]⟩ : ByteArray) (⟨#[]⟩ : ByteArray) 0 0 2 (⟨#[120]⟩ : ByteArray) ([] : List Int) 0 = some ⟨#[117, 110, 100, 101, 102, 105, 110, 101, 100, 58, 32, 120]⟩ := by decide +kernel
  unfold cavillaw33_works.f
  rw [e, Option.bind_some, if_pos (by decide +kernel), step_m3, Option.bind_some]
  exact congrArg some (by decide +kernel)
end Go.Proofs.YtnpgadfoohjlnabDoor.Plain
