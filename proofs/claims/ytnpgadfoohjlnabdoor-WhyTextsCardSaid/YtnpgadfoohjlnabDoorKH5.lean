/- why, plain: the document's titles; WhyTexts. No condition beyond what each lemma says. -/
import Derived.Test.YtnpgadfoohjlnabDoorKH4
import Derived.Test.YtnpgadfoohjlnabDoorQK7
import Derived.Test.YtnpgadfoohjlnabDoorQK2
import Derived.Test.YtnpgadfoohjlnabDoorQK1
namespace Go.Proofs.YtnpgadfoohjlnabDoor.Plain
open Go.RowKit Go.Proofs.YtnpgadfoohjlnabDoorW.PrintWords Go.Proofs.YtnpgadfoohjlnabDoorW.PrintLast Go.Proofs.YtnpgadfoohjlnabDoorW.PrintMore Go.Proofs.YtnpgadfoohjlnabDoor.QK

def titlesB : List UInt8 := [100, 101, 99, 108, 97, 114, 101, 100, 32, 97, 103, 97, 105, 110, 47, 117, 110, 100, 101, 102, 105, 110, 101, 100, 47, 110, 111, 116, 32, 97, 32, 116, 121, 112, 101, 47, 110, 111, 116, 32, 97, 32, 118, 97, 108, 117, 101, 47, 110, 111, 32, 115, 117, 99, 104, 32, 112, 97, 99, 107, 97, 103, 101, 47, 112, 97, 99, 107, 97, 103, 101, 115, 32, 98, 114, 105, 110, 103, 32, 105, 110, 32, 111, 110, 101, 32, 97, 110, 111, 116, 104, 101, 114, 47, 98, 114, 111, 117, 103, 104, 116, 32, 105, 110, 32, 97, 110, 100, 32, 110, 111, 116, 32, 117, 115, 101, 100, 47, 100, 101, 99, 108, 97, 114, 101, 100, 32, 97, 110, 100, 32, 110, 111, 116, 32, 117, 115, 101, 100, 47, 108, 97, 98, 101, 108, 32, 110, 111, 116, 32, 117, 115, 101, 100, 47, 106, 117, 109, 112, 32, 116, 111, 32, 110, 111, 119, 104, 101, 114, 101, 47, 108, 97, 98, 101, 108, 32, 100, 101, 99, 108, 97, 114, 101, 100, 32, 97, 103, 97, 105, 110, 47, 109, 105, 115, 115, 105, 110, 103, 32, 114, 101, 116, 117, 114, 110, 47, 110, 111, 116, 32, 97, 32, 99, 111, 110, 115, 116, 97, 110, 116, 47, 100, 111, 101, 115, 32, 110, 111, 116, 32, 102, 105, 116, 47, 100, 105, 118, 105, 115, 105, 111, 110, 32, 98, 121, 32, 122, 101, 114, 111, 47, 109, 105, 115, 109, 97, 116, 99, 104, 101, 100, 32, 116, 121, 112, 101, 115, 47, 111, 112, 101, 114, 97, 116, 111, 114, 32, 100, 111, 101, 115, 32, 110, 111, 116, 32, 103, 111, 32, 119, 105, 116, 104, 32, 105, 116, 47, 110, 111, 116, 32, 97, 32, 99, 111, 110, 100, 105, 116, 105, 111, 110, 47, 99, 97, 110, 110, 111, 116, 32, 98, 101, 32, 97, 115, 115, 105, 103, 110, 101, 100, 47, 119, 114, 111, 110, 103, 32, 110, 117, 109, 98, 101, 114, 32, 111, 102, 32, 118, 97, 108, 117, 101, 115, 47, 99, 97, 110, 110, 111, 116, 32, 98, 101, 32, 97, 115, 115, 105, 103, 110, 101, 100, 32, 116, 111, 47, 110, 111, 32, 110, 101, 119, 32, 118, 97, 114, 105, 97, 98, 108, 101, 115, 47, 99, 97, 110, 110, 111, 116, 32, 98, 101, 32, 99, 97, 108, 108, 101, 100, 47, 119, 114, 111, 110, 103, 32, 110, 117, 109, 98, 101, 114, 32, 111, 102, 32, 97, 114, 103, 117, 109, 101, 110, 116, 115, 47, 110, 111, 32, 118, 97, 108, 117, 101, 47, 118, 97, 108, 117, 101, 32, 110, 111, 116, 32, 117, 115, 101, 100, 47, 110, 111, 32, 115, 117, 99, 104, 32, 102, 105, 101, 108, 100, 32, 111, 114, 32, 109, 101, 116, 104, 111, 100, 47, 109, 111, 114, 101, 32, 116, 104, 97, 110, 32, 111, 110, 101, 32, 115, 117, 99, 104, 32, 102, 105, 101, 108, 100, 32, 111, 114, 32, 109, 101, 116, 104, 111, 100, 47, 99, 97, 110, 110, 111, 116, 32, 98, 101, 32, 105, 110, 100, 101, 120, 101, 100, 47, 111, 117, 116, 32, 111, 102, 32, 114, 97, 110, 103, 101, 47, 99, 97, 110, 110, 111, 116, 32, 98, 101, 32, 97, 115, 115, 101, 114, 116, 101, 100, 47, 109, 105, 115, 115, 105, 110, 103, 32, 109, 101, 116, 104, 111, 100, 47, 119, 114, 111, 110, 103, 32, 108, 105, 116, 101, 114, 97, 108, 47, 116, 104, 101, 114, 101, 32, 97, 108, 114, 101, 97, 100, 121, 47, 119, 114, 111, 110, 103, 32, 117, 115, 101, 32, 111, 102, 32, 97, 32, 99, 104, 97, 110, 110, 101, 108, 47, 99, 97, 110, 110, 111, 116, 32, 98, 101, 32, 114, 97, 110, 103, 101, 100, 32, 111, 118, 101, 114, 47, 110, 111, 116, 32, 97, 32, 99, 97, 108, 108, 47, 119, 114, 111, 110, 103, 32, 117, 115, 101, 32, 111, 102, 32, 119, 104, 97, 116, 32, 105, 115, 32, 98, 117, 105, 108, 116, 32, 105, 110, 47, 97, 114, 103, 117, 109, 101, 110, 116, 115, 32, 100, 111, 32, 110, 111, 116, 32, 103, 111, 32, 116, 111, 103, 101, 116, 104, 101, 114, 47, 116, 121, 112, 101, 32, 97, 114, 103, 117, 109, 101, 110, 116, 32, 110, 111, 116, 32, 107, 110, 111, 119, 110, 47, 119, 114, 111, 110, 103, 32, 116, 121, 112, 101, 32, 97, 114, 103, 117, 109, 101, 110, 116, 115, 47, 100, 111, 101, 115, 32, 110, 111, 116, 32, 103, 111, 32, 119, 105, 116, 104, 32, 105, 116, 115, 32, 98, 111, 117, 110, 100, 47, 116, 121, 112, 101, 32, 119, 105, 116, 104, 105, 110, 32, 105, 116, 115, 101, 108, 102, 47, 116, 121, 112, 101, 32, 103, 114, 111, 119, 115, 32, 119, 105, 116, 104, 111, 117, 116, 32, 101, 110, 100, 47, 104, 97, 110, 103, 115, 32, 111, 110, 32, 105, 116, 115, 101, 108, 102, 47, 99, 97, 110, 110, 111, 116, 32, 104, 97, 118, 101, 32, 109, 101, 116, 104, 111, 100, 115, 47, 102, 105, 101, 108, 100, 32, 111, 114, 32, 109, 101, 116, 104, 111, 100, 32, 116, 104, 101, 114, 101, 32, 97, 108, 114, 101, 97, 100, 121, 47, 99, 97, 110, 110, 111, 116, 32, 98, 101, 32, 99, 111, 110, 118, 101, 114, 116, 101, 100, 47, 119, 114, 111, 110, 103, 32, 99, 111, 110, 115, 116, 114, 97, 105, 110, 116, 47, 104, 97, 115, 32, 110, 111, 32, 97, 100, 100, 114, 101, 115, 115, 47, 110, 111, 116, 32, 116, 111, 108, 100, 32, 116, 111, 32, 111, 116, 104, 101, 114, 32, 112, 97, 99, 107, 97, 103, 101, 115, 47, 119, 114, 111, 110, 103, 32, 112, 97, 114, 97, 109, 101, 116, 101, 114, 115, 47]
def errorsB : List UInt8 := [97, 114, 103, 117, 109, 101, 110, 116, 47, 116, 111, 111, 32, 108, 111, 110, 103, 47, 110, 111, 116, 32, 85, 84, 70, 45, 56, 47, 111, 117, 116, 32, 111, 102, 32, 114, 97, 110, 103, 101, 47, 111, 117, 116, 32, 111, 102, 32, 111, 114, 100, 101, 114, 47, 116, 104, 101, 114, 101, 32, 97, 108, 114, 101, 97, 100, 121, 47, 110, 111, 116, 32, 116, 104, 101, 114, 101, 47, 109, 97, 108, 102, 111, 114, 109, 101, 100, 47, 111, 118, 101, 114, 102, 108, 111, 119, 47, 100, 105, 118, 105, 115, 105, 111, 110, 32, 98, 121, 32, 122, 101, 114, 111, 47, 119, 114, 111, 110, 103, 32, 107, 105, 110, 100, 47, 101, 110, 100, 115, 32, 116, 111, 111, 32, 115, 111, 111, 110, 47, 119, 114, 111, 110, 103, 32, 100, 105, 103, 105, 116, 47, 119, 114, 111, 110, 103, 32, 101, 115, 99, 97, 112, 101, 47, 110, 111, 32, 116, 111, 107, 101, 110, 47, 115, 121, 110, 116, 97, 120, 47, 116, 111, 111, 32, 100, 101, 101, 112, 47, 119, 114, 111, 110, 103, 32, 116, 121, 112, 101, 47, 109, 105, 115, 115, 105, 110, 103, 32, 109, 101, 116, 104, 111, 100, 47, 109, 101, 116, 104, 111, 100, 32, 111, 102, 32, 116, 104, 101, 32, 112, 111, 105, 110, 116, 101, 114, 47, 97, 109, 98, 105, 103, 117, 111, 117, 115, 47, 110, 111, 116, 32, 105, 110, 32, 116, 104, 101, 32, 99, 111, 110, 115, 116, 114, 97, 105, 110, 116, 47, 99, 97, 110, 110, 111, 116, 32, 105, 110, 102, 101, 114, 47, 99, 97, 110, 110, 111, 116, 32, 98, 101, 32, 111, 110, 101, 47, 99, 121, 99, 108, 101, 47]
/-- The n-th piece, each with a / behind it; cur: what has been read of the present one, backwards. -/
def piece : List UInt8 → List UInt8 → Int → List UInt8
  | [], _, _ => [63]
  | b :: l, cur, n => if b = 47 then (if n - 1 = 0 then cur.reverse else piece l [] (n - 1)) else piece l (b :: cur) n
theorem extract_list (s : List UInt8) (i j : Nat) : (⟨s.toArray⟩ : ByteArray).extract i j = ⟨((s.take j).drop i).toArray⟩ := by
  apply ByteArray.ext
  simp [List.drop_take]
theorem nth_loop (s : List UInt8) (hs : s.length ≤ 2000) : ∀ (d i fr : Nat) (n : Int), i + d = s.length → fr ≤ i → 1 ≤ n → n ≤ 1000 → Ev (fun k => cavilref33_nth.l0 k ⟨s.toArray⟩ n (fr : Int) (i : Int)) ⟨(piece (s.drop i) ((s.take i).drop fr).reverse n).toArray⟩
  | 0, i, fr, n, hi, hf, h0, h1 => by
    rw [List.drop_eq_nil_of_le (by omega)]
    refine evNext (Ev.now _) fun k => ?_
    rw [cavilref33_nth.l0, bytes_size, if_neg (by omega)]
    rfl
  | d + 1, i, fr, n, hi, hf, h0, h1 => by
    have hlt : i < s.length := by omega
    have hb : bt (⟨s.toArray⟩ : ByteArray) (i : Int) = (s[i].toNat : Int) := (bt_at (⟨s.toArray⟩ : ByteArray) (i : Int) (by rw [bytes_size]; omega)).symm
    have w1 : wrap64 ((i : Int) + 1) = ((i + 1 : Nat) : Int) := by unfold wrap64; omega
    have w2 : wrap64 (n - 1) = n - 1 := by unfold wrap64; omega
    rw [List.drop_eq_getElem_cons hlt, piece]
    by_cases c : s[i] = 47
    · have c' : bt (⟨s.toArray⟩ : ByteArray) (i : Int) = 47 := by rw [hb, c]; rfl
      rw [if_pos c]
      by_cases cn : n - 1 = 0
      · rw [if_pos cn, List.reverse_reverse]
        refine evNext (Ev.now _) fun k => ?_
        rw [cavilref33_nth.l0, bytes_size, if_pos (by omega), if_pos (by omega), if_pos c', w2, if_pos cn, if_pos (by omega), if_pos (by omega), if_pos (by omega), Int.toNat_natCast, Int.toNat_natCast, extract_list]
      · rw [if_neg cn]
        have h := nth_loop s hs d (i + 1) (i + 1) (n - 1) (by omega) (by omega) (by omega) (by omega)
        have e0 : (s.take (i + 1)).drop (i + 1) = [] := List.drop_eq_nil_of_le (by rw [List.length_take]; omega)
        rw [e0, List.reverse_nil] at h
        refine evNext h fun k => ?_
        rw [cavilref33_nth.l0, bytes_size, if_pos (by omega), if_pos (by omega), if_pos c', w2, if_neg cn, w1]
    · have c' : ¬ bt (⟨s.toArray⟩ : ByteArray) (i : Int) = 47 := by
        rw [hb]
        intro e
        exact c (UInt8.toNat_inj.1 (by show s[i].toNat = 47; omega))
      rw [if_neg c]
      have h := nth_loop s hs d (i + 1) fr n (by omega) (by omega) h0 h1
      rw [List.take_add_one, List.getElem?_eq_getElem hlt, List.drop_append_of_le_length (by rw [List.length_take]; omega)] at h
      simp only [Option.toList_some, List.reverse_append, List.reverse_cons, List.reverse_nil, List.nil_append, List.cons_append] at h
      refine evNext h fun k => ?_
      rw [cavilref33_nth.l0, bytes_size, if_pos (by omega), if_pos (by omega), if_neg c', w1]
theorem nth_ev (s : List UInt8) (hs : s.length ≤ 2000) (n : Int) (h0 : 1 ≤ n) (h1 : n ≤ 1000) : Ev (fun k => cavilref33_nth.f k ⟨s.toArray⟩ n) ⟨(piece s [] n).toArray⟩ :=
  nth_loop s hs s.length 0 0 n (by omega) (by omega) h0 h1
theorem why_marks : ∀ i : Fin 100, 1 ≤ i.val → why_Title.f (i.val : Int) = some ⟨(piece titlesB [] (i.val : Int)).toArray⟩ ∧ (piece titlesB [] (i.val : Int)).length ≤ 60 := by decide +kernel
theorem why_syntax : ∀ i : Fin 26, 1 ≤ i.val → why_Title.f (100 + (i.val : Int)) = some ((⟨#[115, 121, 110, 116, 97, 120, 58, 32]⟩ : ByteArray) ++ ⟨(piece errorsB [] (i.val : Int)).toArray⟩) ∧ (piece errorsB [] (i.val : Int)).length ≤ 60 := by decide +kernel
theorem why_file : ∀ i : Fin 26, 1 ≤ i.val → why_Title.f (200 + (i.val : Int)) = some ((⟨#[102, 105, 108, 101, 58, 32]⟩ : ByteArray) ++ ⟨(piece errorsB [] (i.val : Int)).toArray⟩) ∧ (piece errorsB [] (i.val : Int)).length ≤ 60 := by decide +kernel
theorem rtitle_none (x : Int) (y : ByteArray) (h : x < 1 ∨ x > 25) : Ev (fun k => cavilref33_Title.j1 k x y false) ⟨#[63]⟩ := by
  refine evNext (Ev.now _) fun k => ?_
  rw [cavilref33_Title.j1, if_neg (by decide)]
  by_cases c : x < 1
  · rw [if_pos c]
  · rw [if_neg c, if_pos (by omega)]
theorem rtitle_error (x : Int) (y : ByteArray) (h0 : 1 ≤ x) (h1 : x ≤ 25) (hy : y.size ≤ 20) (hl : (piece errorsB [] x).length ≤ 60) : Ev (fun k => cavilref33_Title.j1 k x y false) (y ++ ⟨(piece errorsB [] x).toArray⟩) := by
  have hn := nth_ev errorsB (by decide +kernel) x h0 (by omega)
  refine evNext (f := fun k => (cavilref33_nth.f k ⟨errorsB.toArray⟩ x).bind fun t => if y.size + t.size ≤ 9223372036854775807 then some (y ++ t) else none) (Ev.bind (f := fun _ t => if y.size + t.size ≤ 9223372036854775807 then some (y ++ t) else none) hn ?_) fun k => ?_
  · rw [bytes_size (piece errorsB [] x), if_pos (by omega)]
    exact Ev.now _
  · rw [cavilref33_Title.j1, if_neg (by decide), if_neg (by omega), if_neg (by omega)]
    rfl
theorem rtitle_mark (x : Int) (h0 : 1 ≤ x) (h1 : x ≤ 99) : Ev (fun k => cavilref33_Title.j1 k x ⟨#[]⟩ true) ⟨(piece titlesB [] x).toArray⟩ := by
  have hn := nth_ev titlesB (by decide +kernel) x h0 (by omega)
  refine evNext (f := fun k => (cavilref33_nth.f k ⟨titlesB.toArray⟩ x).bind fun t => some t) (Ev.bind (f := fun _ t => some t) hn (Ev.now _)) fun k => ?_
  rw [cavilref33_Title.j1, if_pos rfl]
  rfl
theorem rtitle_kind (x : Int) (y : ByteArray) (hy : y.toList ≠ []) {r : ByteArray} (h : Ev (fun k => cavilref33_Title.j1 k x y false) r) : Ev (fun k => cavilref33_Title.j0 k x y) r :=
  evNext h fun k => by rw [cavilref33_Title.j0, if_neg hy]
/-- The program's title and the document's. -/
theorem title_both (c : Int) (h0 : -9223372036854775808 ≤ c) (h1 : c ≤ 9223372036854775807) : ∃ t, why_Title.f c = some t ∧ Ev (fun k => cavilref33_Title.f k c) t ∧ t.size ≤ 100 := by
  by_cases c2 : c ≥ 200
  · have hw : wrap64 (c - 200) = c - 200 := by unfold wrap64; omega
    by_cases ce : 1 ≤ c - 200 ∧ c - 200 ≤ 25
    · have hx := why_file ⟨(c - 200).toNat, by omega⟩ (by show 1 ≤ (c - 200).toNat; omega)
      simp only [show (((c - 200).toNat : Nat) : Int) = c - 200 by omega, show 200 + (c - 200) = c by omega] at hx
      refine ⟨_, hx.1, evCong (rtitle_kind (c - 200) ⟨#[102, 105, 108, 101, 58, 32]⟩ (by decide +kernel) (rtitle_error (c - 200) _ ce.1 ce.2 (by decide) hx.2)) fun k => ?_, ?_⟩
      · unfold cavilref33_Title.f
        rw [if_pos c2, hw]
      · rw [ByteArray.size_append, bytes_size (piece errorsB [] (c - 200))]
        have : (⟨#[102, 105, 108, 101, 58, 32]⟩ : ByteArray).size = 6 := rfl
        omega
    · refine ⟨⟨#[63]⟩, ?_, evCong (rtitle_kind (c - 200) ⟨#[102, 105, 108, 101, 58, 32]⟩ (by decide +kernel) (rtitle_none _ _ (by omega))) fun k => ?_, by decide⟩
      · unfold why_Title.f why_named.f
        rw [if_pos c2, hw]
        by_cases e : c - 200 < 1
        · rw [if_pos e]
        · rw [if_neg e, if_pos (by omega)]
      · unfold cavilref33_Title.f
        rw [if_pos c2, hw]
  · by_cases c1 : c ≥ 100
    · have hw : wrap64 (c - 100) = c - 100 := by unfold wrap64; omega
      by_cases ce : 1 ≤ c - 100 ∧ c - 100 ≤ 25
      · have hx := why_syntax ⟨(c - 100).toNat, by omega⟩ (by show 1 ≤ (c - 100).toNat; omega)
        simp only [show (((c - 100).toNat : Nat) : Int) = c - 100 by omega, show 100 + (c - 100) = c by omega] at hx
        refine ⟨_, hx.1, evCong (rtitle_kind (c - 100) ⟨#[115, 121, 110, 116, 97, 120, 58, 32]⟩ (by decide +kernel) (rtitle_error (c - 100) _ ce.1 ce.2 (by decide) hx.2)) fun k => ?_, ?_⟩
        · unfold cavilref33_Title.f
          rw [if_neg c2, if_pos c1, hw]
        · rw [ByteArray.size_append, bytes_size (piece errorsB [] (c - 100))]
          have : (⟨#[115, 121, 110, 116, 97, 120, 58, 32]⟩ : ByteArray).size = 8 := rfl
          omega
      · refine ⟨⟨#[63]⟩, ?_, evCong (rtitle_kind (c - 100) ⟨#[115, 121, 110, 116, 97, 120, 58, 32]⟩ (by decide +kernel) (rtitle_none _ _ (by omega))) fun k => ?_, by decide⟩
        · unfold why_Title.f why_named.f
          rw [if_neg c2, if_pos c1, hw]
          by_cases e : c - 100 < 1
          · rw [if_pos e]
          · rw [if_neg e, if_pos (by omega)]
        · unfold cavilref33_Title.f
          rw [if_neg c2, if_pos c1, hw]
    · have hn : (⟨#[]⟩ : ByteArray).toList = ([] : List UInt8) := by decide +kernel
      by_cases ce : c ≥ 1
      · have hx := why_marks ⟨c.toNat, by omega⟩ (by show 1 ≤ c.toNat; omega)
        simp only [show ((c.toNat : Nat) : Int) = c by omega] at hx
        refine ⟨_, hx.1, evCong (f := fun k => cavilref33_Title.j0 k c ⟨#[]⟩) (evNext (rtitle_mark c ce (by omega)) fun k => ?_) fun k => ?_, ?_⟩
        · rw [cavilref33_Title.j0, if_pos hn, decide_eq_true ce]
        · unfold cavilref33_Title.f
          rw [if_neg c2, if_neg c1]
        · rw [bytes_size]
          omega
      · refine ⟨⟨#[63]⟩, ?_, evCong (f := fun k => cavilref33_Title.j0 k c ⟨#[]⟩) (evNext (rtitle_none c ⟨#[]⟩ (by omega)) fun k => ?_) fun k => ?_, by decide⟩
        · unfold why_Title.f
          rw [if_neg c2, if_neg c1, if_neg ce]
        · rw [cavilref33_Title.j0, if_pos hn, decide_eq_false ce]
        · unfold cavilref33_Title.f
          rw [if_neg c2, if_neg c1]
theorem beq_self (a : ByteArray) : a.toList = a.toList := rfl
theorem WhyTexts (x0 x1 : ByteArray) (x2 x3 c : Int) (x5 : ByteArray) (l : List Int) (x7 a : Int) (hc0 : -9223372036854775808 ≤ c) (hc1 : c ≤ 9223372036854775807) (h0 : -9223372036854775808 ≤ a) (h1 : a ≤ 9223372036854775807) : ∃ k, cavillaw33_WhyTexts.f k x0 x1 x2 x3 c x5 l x7 a = some true := by
  obtain ⟨t, ht, ⟨K1, k1⟩, hts⟩ := title_both c hc0 hc1
  obtain ⟨K2, k2⟩ := rstep_ev a h0 h1
  have hs := step_f a h0 h1
  dsimp only at k1 k2
  have hf : cavillaw33_few.f x0 x1 x2 x3 c x5 l x7 = some (x0, x1, x2, x3, c, x5.extract 0 (mn (x5.size : Int) 30).toNat, l.take (mn (l.length : Int) 10).toNat, x7) := by
    unfold cavillaw33_few.f
    rw [if_pos (by unfold mn; split <;> omega), if_pos (by unfold mn; split <;> omega), if_pos (by unfold mn; split <;> omega), if_pos (by unfold mn; split <;> omega)]
  obtain ⟨y, hy⟩ : ∃ y, y = x5.extract 0 (mn (x5.size : Int) 30).toNat := ⟨_, rfl⟩
  have hys : y.size ≤ 30 := by
    rw [hy, ByteArray.size_extract]
    have : (mn (x5.size : Int) 30).toNat ≤ 30 := by unfold mn; split <;> omega
    omega
  rw [← hy] at hf
  obtain ⟨m, hm⟩ : ∃ m, m = l.take (mn (l.length : Int) 10).toNat := ⟨_, rfl⟩
  rw [← hm] at hf
  have hz : (t ++ (⟨#[58, 32]⟩ : ByteArray)).size = t.size + 2 := by rw [ByteArray.size_append]; rfl
  obtain ⟨v, hv, hv2⟩ : ∃ v, why_Text.f x0 x1 x2 x3 c y m x7 = some v ∧ cavilref33_Text.f (K1 + K2) x0 x1 x2 x3 c y m x7 = some v := by
    unfold why_Text.f cavilref33_Text.f
    by_cases e : y.toList = ([] : List UInt8)
    · exact ⟨t, by rw [if_pos e, ht]; rfl, by rw [if_pos e, k1 _ (by omega)]; rfl⟩
    · exact ⟨(t ++ (⟨#[58, 32]⟩ : ByteArray)) ++ y, by rw [if_neg e, ht, Option.bind_some, if_pos (by omega), if_pos (by rw [hz]; omega)], by rw [if_neg e, k1 _ (by omega), Option.bind_some, if_pos (by omega), if_pos (by rw [hz]; omega)]⟩
  refine ⟨K1 + K2, ?_⟩
  unfold cavillaw33_WhyTexts.f
  rw [hf, Option.bind_some]
  dsimp only
  rw [ht, Option.bind_some, k1 _ (by omega), Option.bind_some, if_pos rfl, hv, Option.bind_some, hv2, Option.bind_some, if_pos rfl, hs, Option.bind_some, k2 _ (by omega), Option.bind_some, if_pos rfl, works_f]
  rfl
end Go.Proofs.YtnpgadfoohjlnabDoor.Plain
