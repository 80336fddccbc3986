/- Errors' codes and places, and strings of bytes, plain. No condition beyond what each lemma says. -/
import Derived.Test.YtnpgadfoohjlnaaDoorU0
import Derived.Lib.Strings
import Derived.Test.YtnpgadfoohjlnaaDoorQU1
import Derived.Test.YtnpgadfoohjlnaaDoorQU2
namespace Go.Proofs.YtnpgadfoohjlnaaDoor.Plain
open Go.RowKit Go.Proofs.YtnpgadfoohjlnaaDoorW.PrintWords Go.Proofs.YtnpgadfoohjlnaaDoorW.PrintLast Go.Proofs.YtnpgadfoohjlnaaDoorW.PrintMore Go.Proofs.YtnpgadfoohjlnaaDoor.QU

theorem str_bytes (s : ByteArray) : strOfNums (bytesOf s) = s := by
  unfold strOfNums bytesOf
  rw [List.map_map]
  have h : ((fun n : Int => UInt8.ofNat n.toNat) ∘ fun b : UInt8 => (b.toNat : Int)) = id := funext fun b => by simp
  rw [h, List.map_id]
theorem bytes_str {l : List Int} (h : Bytes8 l) : bytesOf (strOfNums l) = l := by
  unfold strOfNums bytesOf
  rw [List.map_map]
  refine (List.map_congr_left (g := id) fun n hn => ?_).trans (List.map_id _)
  have := h n hn
  show ((UInt8.ofNat n.toNat).toNat : Int) = n
  rw [UInt8.toNat_ofNat']
  omega
theorem str_size (l : List Int) : (strOfNums l).size = l.length := by
  show (l.map fun n => UInt8.ofNat n.toNat).toArray.size = _
  simp
theorem str_toList {l m : List Int} (hl : Bytes8 l) (hm : Bytes8 m) : (strOfNums l).toList = (strOfNums m).toList ↔ l = m := by
  constructor
  · intro h
    have h2 : strOfNums l = strOfNums m := by
      have e : ∀ s : ByteArray, s.toList = s.data.toList := ByteArray.toList_eq
      rw [e, e] at h
      cases h1 : strOfNums l
      cases h2 : strOfNums m
      rw [h1, h2] at h
      simp only at h
      congr
      exact Array.toList_inj.1 h
    rw [← bytes_str hl, h2, bytes_str hm]
  · rintro rfl
    rfl
theorem equal_f {l m : List Int} (hl : Bytes8 l) (hm : Bytes8 m) : bytes_Equal.f l m = some (decide (l = m)) := by
  unfold bytes_Equal.f
  congr 1
  by_cases h : l = m
  · subst h
    simp
  · rw [decide_eq_false h]
    simp only [beq_eq_false_iff_ne, ne_eq]
    intro e
    exact h ((str_toList hl hm).1 e)
/-- The number of an error's kind, sought from one on. -/
def codeGo (c : Int) : Nat → Nat → Int
  | 0, _ => -1
  | d + 1, i => if c = (i : Int) then (i : Int) else codeGo c d (i + 1)
/-- Which number an error is, or wraps. -/
inductive IsNo : Er → Int → Prop
  | no (c : Int) : IsNo (.no c) c
  | at_ (o c : Int) : IsNo (.at_ o (.no c)) c
theorem is_f {e : Er} {c : Int} (h : IsNo e c) (d : Int) : errors_Is.f (some e) (some (.no d)) = some (decide (c = d)) := by
  cases h <;> rfl
theorem code_loop {e : Er} {c : Int} (h : IsNo e c) : ∀ (d i : Nat), i + d = 26 → Ev (fun k => cavillaw01_Code.l0 k (some e) (i : Int)) (codeGo c d i)
  | 0, i, hi => by
    refine evConst fun k => ?_
    simp only [cavillaw01_Code.l0, codeGo]
    rw [if_neg (by omega)]
  | d + 1, i, hi => by
    simp only [codeGo]
    by_cases q : c = (i : Int)
    · rw [if_pos q]
      refine evConst fun k => ?_
      simp only [cavillaw01_Code.l0]
      rw [if_pos (by omega), is_f h, Option.bind_some, decide_eq_true q, if_pos rfl]
    · rw [if_neg q]
      refine evNext (code_loop h d (i + 1) (by omega)) (fun k => ?_)
      simp only [cavillaw01_Code.l0]
      rw [if_pos (by omega), is_f h, Option.bind_some, decide_eq_false q, if_neg (by simp), w64_id (by omega) (by omega)]
      rfl
theorem code_ev {e : Er} {c : Int} (h : IsNo e c) : Ev (fun k => cavillaw01_Code.f k (some e)) (codeGo c 25 1) := code_loop h 25 1 rfl
theorem codeGo_id : ∀ (d i : Nat) (c : Int), (i : Int) ≤ c → c < i + d → codeGo c d i = c
  | 0, i, c, h, h2 => by omega
  | d + 1, i, c, h, h2 => by
    simp only [codeGo]
    by_cases q : c = (i : Int)
    · rw [if_pos q, q]
    · rw [if_neg q]
      exact codeGo_id d (i + 1) c (by omega) (by omega)
/-- An error with this number, or none with 0. -/
def Coded : Option Er → Int → Prop
  | none, c => c = 0
  | some e, c => IsNo e c ∧ 1 ≤ c ∧ c ≤ 25
theorem coded_ev {e : Option Er} {c : Int} (h : Coded e c) : Ev (fun k => cavillaw01_Code.f k e) c := by
  cases e with
  | none =>
    cases h
    exact Ev.now _
  | some e =>
    have := code_ev h.1
    rw [codeGo_id 25 1 c (by have := h.2.1; omega) (by have := h.2.2; omega)] at this
    exact this
theorem off_no (c : Int) : cavillaw01_Off.f (some (.no c)) = some (-1) := rfl
theorem off_none : cavillaw01_Off.f none = some (-1) := rfl
theorem off_at (o : Int) (e : Er) : cavillaw01_Off.f (some (.at_ o e)) = some o := rfl
end Go.Proofs.YtnpgadfoohjlnaaDoor.Plain
