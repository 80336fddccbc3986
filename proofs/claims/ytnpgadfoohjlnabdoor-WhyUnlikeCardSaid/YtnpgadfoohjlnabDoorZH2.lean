/- WhyUnlike, plain. No condition beyond what each lemma says. -/
import Derived.Test.YtnpgadfoohjlnabDoorZH1
import Derived.Test.YtnpgadfoohjlnabDoorQZ2
namespace Go.Proofs.YtnpgadfoohjlnabDoor.Plain
open Go.RowKit Go.Proofs.YtnpgadfoohjlnabDoorW.PrintWords Go.Proofs.YtnpgadfoohjlnabDoorW.PrintLast Go.Proofs.YtnpgadfoohjlnabDoorW.PrintMore Go.Proofs.YtnpgadfoohjlnabDoor.QZ

theorem title_some : ∀ a : Fin 256, (why_Title.f (a.val : Int)).isSome = true := by decide +kernel
/-- The titles of the marks differ, and say something. -/
theorem titles_differ : ∀ a b : Fin 53, 1 ≤ a.val → a ≠ b → why_Title.f (a.val : Int) ≠ why_Title.f (b.val : Int) := by decide +kernel
theorem titles_say : ∀ a : Fin 53, 1 ≤ a.val → why_Title.f (a.val : Int) ≠ some ⟨#[]⟩ ∧ why_Title.f (a.val : Int) ≠ some ⟨#[63]⟩ := by decide +kernel
theorem byte_eq {x y : ByteArray} (h : x.toList = y.toList) : x = y := by
  rw [ByteArray.toList_eq, ByteArray.toList_eq] at h
  exact ByteArray.ext (Array.toList_inj.1 h)
theorem unlike_j0 (m n : Int) (hm : -32768 ≤ m ∧ m ≤ 32767) (hn : -32768 ≤ n ∧ n ≤ 32767) : cavillaw33_WhyUnlike.j0 1 m n false = some true := by
  rw [cavillaw33_WhyUnlike.j0, if_neg (by decide), w64_id (by omega) (by omega), w64_id (by omega) (by omega), step_f m (by omega) (by omega), Option.bind_some, step_f n (by omega) (by omega), Option.bind_some, works_f, bytes_list, bytes_list]
  rw [if_pos]
  · rfl
  · by_cases c : m = n
    · subst c; simp
    · have : stepT m ≠ stepT n := fun h => c (stepT_inj h)
      rw [beq_eq_false_iff_ne.2 c, beq_eq_false_iff_ne.2 this]
      rfl
theorem WhyUnlike (a b m n : Int) (ha : 0 ≤ a ∧ a ≤ 255) (hb : 0 ≤ b ∧ b ≤ 255) (hm : -32768 ≤ m ∧ m ≤ 32767) (hn : -32768 ≤ n ∧ n ≤ 32767) : ∃ k, cavillaw33_WhyUnlike.f k a b m n = some true := by
  refine ⟨1, ?_⟩
  obtain ⟨a, rfl⟩ := Int.eq_ofNat_of_zero_le ha.1
  obtain ⟨b, rfl⟩ := Int.eq_ofNat_of_zero_le hb.1
  obtain ⟨s, hs⟩ := Option.isSome_iff_exists.1 (title_some ⟨a, by omega⟩)
  obtain ⟨t, ht⟩ := Option.isSome_iff_exists.1 (title_some ⟨b, by omega⟩)
  simp only at hs ht
  unfold cavillaw33_WhyUnlike.f
  rw [w64_id (by omega) (by omega), w64_id (by omega) (by omega), hs, Option.bind_some, ht, Option.bind_some]
  have J := unlike_j0 m n hm hn
  by_cases c1 : (a : Int) ≥ 1
  · rw [if_pos c1]
    by_cases c2 : (a : Int) ≤ 52
    · rw [if_pos c2]
      have h1 := titles_say ⟨a, by omega⟩ (by show 1 ≤ a; omega)
      simp only [hs] at h1
      have n1 : ¬ s.toList = ([] : List UInt8) := fun h => h1.1 (congrArg some (byte_eq (y := ⟨#[]⟩) (h.trans (bytes_list []).symm)))
      have n2 : (s.toList == ([63] : List UInt8)) = false := beq_eq_false_iff_ne.2 fun h => h1.2 (congrArg some (byte_eq (y := ⟨#[63]⟩) (h.trans (bytes_list [63]).symm)))
      rw [if_neg n1, n2, J]
      by_cases c3 : (b : Int) ≤ 52
      · rw [if_pos c3]
        by_cases c4 : (a : Int) = b
        · rw [if_pos c4]
        · have h2 := titles_differ ⟨a, by omega⟩ ⟨b, by omega⟩ (by show 1 ≤ a; omega) (fun h => c4 (by have := Fin.mk.inj h; omega))
          simp only [hs, ht] at h2
          rw [if_neg c4, if_neg (fun h => h2 (congrArg some (byte_eq h)))]
      · rw [if_neg c3]
    · rw [if_neg c2, J]
  · rw [if_neg c1, J]
end Go.Proofs.YtnpgadfoohjlnabDoor.Plain
