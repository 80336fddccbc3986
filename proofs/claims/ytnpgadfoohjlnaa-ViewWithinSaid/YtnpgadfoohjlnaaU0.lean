/- UTF-8, plain: what a first byte asks for, what bytes at a place are a rune. No condition beyond what each lemma says. -/
import Derived.Test.YtnpgadfoohjlnaaR0
namespace Go.Proofs.Ytnpgadfoohjlnaa.Plain
open Go.RowKit Go.Proofs.YtnpgadfoohjlnaaW.PrintWords Go.Proofs.YtnpgadfoohjlnaaW.PrintLast

/-- All are bytes. -/
def Bytes8 (l : List Int) : Prop := ∀ x ∈ l, 0 ≤ x ∧ x ≤ 255
theorem Bytes8.at {l : List Int} (h : Bytes8 l) (i : Nat) (hi : i < l.length) : 0 ≤ l[i] ∧ l[i] ≤ 255 := h _ (List.getElem_mem hi)
theorem Bytes8.take {l : List Int} (h : Bytes8 l) (n : Nat) : Bytes8 (l.take n) := fun x hx => h x (List.mem_of_mem_take hx)
theorem Bytes8.drop {l : List Int} (h : Bytes8 l) (n : Nat) : Bytes8 (l.drop n) := fun x hx => h x (List.mem_of_mem_drop hx)
theorem Bytes8.append {l m : List Int} (h : Bytes8 l) (h' : Bytes8 m) : Bytes8 (l ++ m) := fun x hx => by
  rcases List.mem_append.1 hx with hx | hx
  · exact h x hx
  · exact h' x hx
theorem bytes8_of (s : ByteArray) : Bytes8 (bytesOf s) := by
  intro x hx
  unfold bytesOf at hx
  obtain ⟨b, _, rfl⟩ := List.mem_map.1 hx
  have := b.toNat_lt
  omega
theorem rd_nat (l : List Int) (i : Nat) (h : i < l.length) : rd l (i : Int) = l[i] := by
  unfold rd
  rw [Int.toNat_natCast, List.getD_eq_getElem?_getD, List.getElem?_eq_getElem h]
  rfl
theorem w32_id {a : Int} (h : -2147483648 ≤ a) (h' : a ≤ 2147483647) : wrap32 a = a := by unfold wrap32; omega

/-! bits of a byte -/
theorem and_31 (c : Int) (h0 : 0 ≤ c) (h1 : c ≤ 255) : Go.bits .and .u8 c 31 = c % 32 := by
  have : ∀ n : Fin 256, Go.bits .and .u8 ((n.val : Nat) : Int) 31 = ((n.val : Nat) : Int) % 32 := by decide +kernel
  obtain ⟨n, rfl⟩ := Int.eq_ofNat_of_zero_le h0
  exact this ⟨n, by omega⟩
theorem and_15 (c : Int) (h0 : 0 ≤ c) (h1 : c ≤ 255) : Go.bits .and .u8 c 15 = c % 16 := by
  have : ∀ n : Fin 256, Go.bits .and .u8 ((n.val : Nat) : Int) 15 = ((n.val : Nat) : Int) % 16 := by decide +kernel
  obtain ⟨n, rfl⟩ := Int.eq_ofNat_of_zero_le h0
  exact this ⟨n, by omega⟩
theorem and_7 (c : Int) (h0 : 0 ≤ c) (h1 : c ≤ 255) : Go.bits .and .u8 c 7 = c % 8 := by
  have : ∀ n : Fin 256, Go.bits .and .u8 ((n.val : Nat) : Int) 7 = ((n.val : Nat) : Int) % 8 := by decide +kernel
  obtain ⟨n, rfl⟩ := Int.eq_ofNat_of_zero_le h0
  exact this ⟨n, by omega⟩
theorem and_63 (c : Int) (h0 : 0 ≤ c) (h1 : c ≤ 255) : Go.bits .and .u8 c 63 = c % 64 := by
  have : ∀ n : Fin 256, Go.bits .and .u8 ((n.val : Nat) : Int) 63 = ((n.val : Nat) : Int) % 64 := by decide +kernel
  obtain ⟨n, rfl⟩ := Int.eq_ofNat_of_zero_le h0
  exact this ⟨n, by omega⟩
theorem and_192 (c : Int) (h0 : 0 ≤ c) (h1 : c ≤ 255) : Go.bits .and .u8 c 192 = c / 64 * 64 := by
  have : ∀ n : Fin 256, Go.bits .and .u8 ((n.val : Nat) : Int) 192 = ((n.val : Nat) : Int) / 64 * 64 := by decide +kernel
  obtain ⟨n, rfl⟩ := Int.eq_ofNat_of_zero_le h0
  exact this ⟨n, by omega⟩
theorem or_low (a b : Int) (h0 : 0 ≤ a) (h1 : a < 33554432) (h2 : 0 ≤ b) (h3 : b < 64) : Go.bits .or .i32 (a * 64) b = a * 64 + b := by
  obtain ⟨m, rfl⟩ := Int.eq_ofNat_of_zero_le h0
  obtain ⟨n, rfl⟩ := Int.eq_ofNat_of_zero_le h2
  have e1 : (BitVec.ofInt 32 ((m : Int) * 64)).toNat = m * 64 := by
    rw [BitVec.toNat_ofInt]
    omega
  have e2 : (BitVec.ofInt 32 (n : Int)).toNat = n := by
    rw [BitVec.toNat_ofInt]
    omega
  have e3 : m * 64 ||| n = m * 64 + n := by
    have := Nat.shiftLeft_add_eq_or_of_lt (i := 6) (b := n) (by omega) m
    rw [Nat.shiftLeft_eq, show (2 : Nat) ^ 6 = 64 from rfl] at this
    exact this.symm
  have e : Go.bits .or .i32 ((m : Int) * 64) (n : Int) = IntKind.i32.wrap (((BitVec.ofInt 32 ((m : Int) * 64) ||| BitVec.ofInt 32 (n : Int)).toNat : Nat) : Int) := rfl
  rw [e, BitVec.toNat_or, e1, e2, e3, i32_w, w32_id (by omega) (by omega)]
  omega

/-- How many bytes a first byte asks for; 0: it is none. -/
def leadSize (c : Int) : Int := if c < 128 then 1 else if 192 ≤ c ∧ c < 224 then 2 else if 224 ≤ c ∧ c < 240 then 3 else if 240 ≤ c ∧ c < 248 then 4 else 0
/-- Its own bits. -/
def leadBits (c : Int) : Int := if c < 128 then c else if 192 ≤ c ∧ c < 224 then c % 32 else if 224 ≤ c ∧ c < 240 then c % 16 else if 240 ≤ c ∧ c < 248 then c % 8 else 0
def Rune (r : Int) : Prop := 0 ≤ r ∧ r ≤ 1114111 ∧ (r < 55296 ∨ 57343 < r)
instance (r : Int) : Decidable (Rune r) := by unfold Rune; infer_instance
def leastOf (size : Int) : Int := if size = 2 then 128 else if size = 3 then 2048 else if size = 4 then 65536 else 0
def cont (c : Int) : Prop := 128 ≤ c ∧ c < 192
instance (c : Int) : Decidable (cont c) := by unfold cont; infer_instance
theorem cont_iff (c : Int) (h0 : 0 ≤ c) (h1 : c ≤ 255) : Go.bits .and .u8 c 192 = 128 ↔ cont c := by
  rw [and_192 c h0 h1]
  unfold cont
  omega
/-- The rune of a first byte's bits and the bytes behind it. -/
def runeOf (r : Int) (l : List Int) : Int := l.foldl (fun r c => r * 64 + c % 64) r
/-- What stands at the begin of bytes: the rune and its size, or none. -/
def decHead : List Int → Option (Int × Int)
  | [] => none
  | c :: l => if leadSize c = 0 ∨ (l.length : Int) + 1 < leadSize c then none
    else if (∀ x ∈ l.take (leadSize c - 1).toNat, cont x) ∧ Rune (runeOf (leadBits c) (l.take (leadSize c - 1).toNat)) ∧ leastOf (leadSize c) ≤ runeOf (leadBits c) (l.take (leadSize c - 1).toNat) then some (runeOf (leadBits c) (l.take (leadSize c - 1).toNat), leadSize c) else none
theorem leadSize_le (c : Int) : 0 ≤ leadSize c ∧ leadSize c ≤ 4 := by
  unfold leadSize
  repeat' split
  all_goals omega
theorem decHead_size {l : List Int} {r n : Int} (h : decHead l = some (r, n)) : 1 ≤ n ∧ n ≤ 4 ∧ n ≤ l.length := by
  cases l with
  | nil => simp [decHead] at h
  | cons c l =>
    simp only [decHead] at h
    split at h
    · cases h
    · rename_i h1
      split at h
      · injection h with h
        injection h with h2 h3
        have := leadSize_le c
        rw [List.length_cons]
        omega
      · cases h
end Go.Proofs.Ytnpgadfoohjlnaa.Plain
