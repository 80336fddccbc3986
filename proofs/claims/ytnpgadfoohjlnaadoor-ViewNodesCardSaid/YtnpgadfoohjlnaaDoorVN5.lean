/- ViewNodes, plain: words, children; the answer is true, whether there is a file or not. No condition beyond what each lemma says. -/
import Derived.Test.YtnpgadfoohjlnaaDoorVN3
import Derived.Test.YtnpgadfoohjlnaaDoorQV7
import Derived.Test.YtnpgadfoohjlnaaDoorQV8
import Derived.Test.YtnpgadfoohjlnaaDoorQV3
import Derived.Test.YtnpgadfoohjlnaaDoorQV9
import Derived.Test.YtnpgadfoohjlnaaDoorQV14
import Derived.Test.YtnpgadfoohjlnaaDoorQV15
import Derived.Test.YtnpgadfoohjlnaaDoorQV16
namespace Go.Proofs.YtnpgadfoohjlnaaDoor.Plain
open Go.RowKit Go.Proofs.YtnpgadfoohjlnaaDoorW.PrintWords Go.Proofs.YtnpgadfoohjlnaaDoorW.PrintLast Go.Proofs.YtnpgadfoohjlnaaDoorW.PrintMore Go.Proofs.YtnpgadfoohjlnaaDoor.QV

def kidN (l : List S33) (n i : Int) : Int := if 0 ≤ i ∧ i < ((nodeN l n).2.2.2.length : Int) then rd (nodeN l n).2.2.2 i else -1
theorem kid5_f (b : List Int) (ts : List S103) (l : List S33) (n i : Int) : view_File_Kid.f (fileOf b ts l) n i = some (kidN l n i) := by
  unfold view_File_Kid.f kidN
  rw [if_pos (one_pos b ts l), node_f, Option.bind_some]
  by_cases c : i < 0
  · rw [if_pos c, if_neg (by omega)]
  · rw [if_neg c]
    by_cases c1 : i ≥ ((nodeN l n).2.2.2.length : Int)
    · rw [if_pos c1, if_neg (by omega)]
    · rw [if_neg c1, if_pos (by omega), if_pos (by omega), if_pos (by omega)]
theorem rkid_f (l : List S33) (n i : Int) : cavilref15_Kid.f l n i = some (kidN l n i) := by
  unfold cavilref15_Kid.f kidN
  rw [in_f, Option.bind_some]
  by_cases ci : inN l n
  · have en : (nodeN l n).2.2.2 = (rd_T33 l n).f3 := by unfold nodeN; rw [if_pos ci]
    rw [if_pos (decide_eq_true ci), en]
    by_cases c : i < 0
    · rw [if_pos c, if_neg (by omega)]
    · rw [if_neg c, if_pos ci.1, if_pos ci.2]
      by_cases c1 : i ≥ ((rd_T33 l n).f3.length : Int)
      · rw [if_pos c1, if_neg (by omega)]
      · rw [if_neg c1, if_pos (by omega), if_pos (by omega), if_pos (by omega)]
  · have en : (nodeN l n).2.2.2 = [] := by unfold nodeN; rw [if_neg ci]
    rw [if_neg (by simpa using ci), en, if_neg (by rw [List.length_nil]; omega)]
/-- A token's text. -/
def textN (b : List Int) (t : S103) : ByteArray := if t.f1 < 0 then ⟨#[]⟩ else if t.f1 > t.f2 then ⟨#[]⟩ else if t.f2 > (b.length : Int) then ⟨#[]⟩ else strOfNums ((b.take (t.f2 : Int).toNat).drop (t.f1 : Int).toNat)
theorem text_f (b : List Int) (t : S103) : scan_Text.f b t.f0 t.f1 t.f2 t.f3 t.f4 = some (textN b t) := by
  unfold scan_Text.f textN
  by_cases c1 : t.f1 < 0
  · rw [if_pos c1, if_pos c1]
  · rw [if_neg c1, if_neg c1]
    by_cases c2 : t.f1 > t.f2
    · rw [if_pos c2, if_pos c2]
    · rw [if_neg c2, if_neg c2]
      by_cases c3 : t.f2 > (b.length : Int)
      · rw [if_pos c3, if_pos c3]
      · rw [if_neg c3, if_neg c3, if_pos (by omega), if_pos (by omega), if_pos (by omega)]
def wordN (b : List Int) (ts : List S103) (l : List S33) (n : Int) : ByteArray :=
  if inN l n ∧ ((rd_T33 l n).f0 = 2 ∨ (rd_T33 l n).f0 = 3) ∧ (rd_T33 l n).f1 < (rd_T33 l n).f2 then textN b (rd_T103 ts (rd_T33 l n).f1) else ⟨#[]⟩
theorem word_f (b : List Int) (ts : List S103) (l : List S33) (hf : Fine l ts.length) (n : Int) : view_File_Word.f (fileOf b ts l) n = some (wordN b ts l n) := by
  unfold view_File_Word.f wordN
  rw [if_pos (one_pos b ts l), node_f, Option.bind_some, rd_file]
  by_cases ci : inN l n
  · have hh := hf.rdh ci
    have en : nodeN l n = ((rd_T33 l n).f0, (rd_T33 l n).f1, (rd_T33 l n).f2, (rd_T33 l n).f3) := by unfold nodeN; rw [if_pos ci]
    rw [en]
    dsimp only
    have tail : (if (rd_T33 l n).f1 ≥ (rd_T33 l n).f2 then some (⟨#[]⟩ : ByteArray) else if 0 ≤ (rd_T33 l n).f1 then if (rd_T33 l n).f1 < (ts.length : Int) then (scan_Text.f b (rd_T103 ts (rd_T33 l n).f1).f0 (rd_T103 ts (rd_T33 l n).f1).f1 (rd_T103 ts (rd_T33 l n).f1).f2 (rd_T103 ts (rd_T33 l n).f1).f3 (rd_T103 ts (rd_T33 l n).f1).f4).bind fun t => some t else none else none) = some (if (rd_T33 l n).f1 < (rd_T33 l n).f2 then textN b (rd_T103 ts (rd_T33 l n).f1) else ⟨#[]⟩) := by
      by_cases c : (rd_T33 l n).f1 < (rd_T33 l n).f2
      · rw [if_neg (by omega), if_pos (by omega), if_pos (by omega), text_f, if_pos c]
        rfl
      · rw [if_pos (by omega), if_neg c]
    by_cases c2 : (rd_T33 l n).f0 = 2
    · rw [if_pos c2, tail]
      by_cases c : (rd_T33 l n).f1 < (rd_T33 l n).f2
      · rw [if_pos c, if_pos ⟨ci, .inl c2, c⟩]
      · rw [if_neg c, if_neg (fun h => c h.2.2)]
    · rw [if_neg c2]
      by_cases c3 : (rd_T33 l n).f0 = 3
      · rw [if_pos c3, tail]
        by_cases c : (rd_T33 l n).f1 < (rd_T33 l n).f2
        · rw [if_pos c, if_pos ⟨ci, .inr c3, c⟩]
        · rw [if_neg c, if_neg (fun h => c h.2.2)]
      · rw [if_neg c3, if_neg (fun h => h.2.1.elim c2 c3)]
  · have en : nodeN l n = (0, 0, 0, []) := by unfold nodeN; rw [if_neg ci]
    rw [en, if_neg (show ¬ (inN l n ∧ ((rd_T33 l n).f0 = 2 ∨ (rd_T33 l n).f0 = 3) ∧ (rd_T33 l n).f1 < (rd_T33 l n).f2) from fun h => ci h.1)]
    dsimp only
    rw [if_neg (show ¬ (0 : Int) = 2 by decide), if_neg (show ¬ (0 : Int) = 3 by decide)]
theorem rword_ev (b : List Int) (ts : List S103) (l : List S33) (hf : Fine l ts.length) (n : Int) : Ev (fun k => cavilref15_Word.f k b ts l n) (wordN b ts l n) := by
  unfold wordN
  refine evNext (f := fun _ => some _) (Ev.now _) fun k => ?_
  unfold cavilref15_Word.f
  rw [in_f, Option.bind_some]
  by_cases ci : inN l n
  · have hh := hf.rdh ci
    have tail : ∀ x : Bool, (x = true ↔ ¬ (((rd_T33 l n).f0 = 2 ∨ (rd_T33 l n).f0 = 3) ∧ (rd_T33 l n).f1 < (rd_T33 l n).f2)) → cavilref15_Word.j0 (k + 1) b ts x (rd_T33 l n).f0 (rd_T33 l n).f1 (rd_T33 l n).f2 (rd_T33 l n).f3 = some (if inN l n ∧ ((rd_T33 l n).f0 = 2 ∨ (rd_T33 l n).f0 = 3) ∧ (rd_T33 l n).f1 < (rd_T33 l n).f2 then textN b (rd_T103 ts (rd_T33 l n).f1) else ⟨#[]⟩) := fun x hx => by
      simp only [cavilref15_Word.j0]
      cases x
      · have hp : ((rd_T33 l n).f0 = 2 ∨ (rd_T33 l n).f0 = 3) ∧ (rd_T33 l n).f1 < (rd_T33 l n).f2 := by
          by_cases q : ((rd_T33 l n).f0 = 2 ∨ (rd_T33 l n).f0 = 3) ∧ (rd_T33 l n).f1 < (rd_T33 l n).f2
          · exact q
          · exact absurd (hx.2 q) (by decide)
        have hP : inN l n ∧ ((rd_T33 l n).f0 = 2 ∨ (rd_T33 l n).f0 = 3) ∧ (rd_T33 l n).f1 < (rd_T33 l n).f2 := ⟨ci, hp⟩
        rw [if_neg (show ¬ false = true by decide), if_pos (show 0 ≤ (rd_T33 l n).f1 by omega), if_pos (show (rd_T33 l n).f1 < (ts.length : Int) by omega), if_pos hP]
        unfold textN
        generalize rd_T103 ts (rd_T33 l n).f1 = y
        by_cases c1 : y.f1 < 0
        · rw [if_pos c1, if_pos c1]
        · rw [if_neg c1, if_neg c1]
          by_cases c2 : y.f1 > y.f2
          · rw [if_pos c2, if_pos c2]
          · rw [if_neg c2, if_neg c2]
            by_cases c3 : y.f2 > (b.length : Int)
            · rw [if_pos c3, if_pos c3]
            · rw [if_neg c3, if_neg c3, if_pos (by omega), if_pos (by omega), if_pos (by omega)]
      · rw [if_pos rfl, if_neg (fun h => (hx.1 rfl) h.2)]
    have eq_ : ((rd_T33 l n).f1 == (rd_T33 l n).f2) = true ↔ ¬ (rd_T33 l n).f1 < (rd_T33 l n).f2 := by rw [beq_iff_eq]; omega
    rw [if_pos (decide_eq_true ci), if_pos ci.1, if_pos ci.2]
    by_cases c2 : (rd_T33 l n).f0 = 2
    · rw [if_pos c2]
      exact tail _ (by rw [eq_]; exact ⟨fun h q => h q.2, fun h q => h ⟨.inl c2, q⟩⟩)
    · rw [if_neg c2]
      by_cases c3 : (rd_T33 l n).f0 = 3
      · rw [if_pos c3]
        exact tail _ (by rw [eq_]; exact ⟨fun h q => h q.2, fun h q => h ⟨.inr c3, q⟩⟩)
      · rw [if_neg c3]
        exact tail true ⟨fun _ q => q.1.elim c2 c3, fun _ => rfl⟩
  · rw [if_neg (by simpa using ci), if_neg (fun h => ci h.1)]
theorem words_loop (b : List Int) (ts : List S103) (l : List S33) (hf : Fine l ts.length) (ks : List Int) (hk : ks.length ≤ 20) : ∀ (d i : Nat) (acc : List ByteArray), i + d = ks.length → acc.length = i →
    Ev (fun k => view_File_Words.l0 k (fileOf b ts l) acc ks (ks.length : Int) (i : Int)) (acc ++ (ks.drop i).map (wordN b ts l))
  | 0, i, acc, h, _ => by
    refine evConst fun k => ?_
    simp only [view_File_Words.l0]
    rw [if_neg (by omega), List.drop_of_length_le (by omega)]
    simp
  | d + 1, i, acc, h, ha => by
    have hi : i < ks.length := by omega
    have e := rd_nat ks i hi
    have ih := words_loop b ts l hf ks hk d (i + 1) (acc ++ [wordN b ts l ks[i]]) (by omega) (by rw [List.length_append, ha]; rfl)
    rw [List.append_assoc] at ih
    rw [List.drop_eq_getElem_cons hi, List.map_cons]
    refine evNext ih fun k => ?_
    simp only [view_File_Words.l0]
    rw [if_pos (by omega), if_pos (by omega), if_pos (by omega), e, word_f b ts l hf, Option.bind_some, if_pos (by omega), w64_succ hi (show ks.length ≤ 9223372036854775807 by omega)]
def wordsN (b : List Int) (ts : List S103) (l : List S33) (n : Int) : List ByteArray := (nodeN l n).2.2.2.map (wordN b ts l)
theorem node_kids (l : List S33) (hs : Small l) (n : Int) : (nodeN l n).2.2.2.length ≤ 20 := by
  unfold nodeN
  split
  · rename_i c
    exact hs.kids n c.1 c.2
  · exact Nat.zero_le _
theorem words_ev (b : List Int) (ts : List S103) (l : List S33) (hs : Small l) (hf : Fine l ts.length) (n : Int) : Ev (fun k => view_File_Words.f k (fileOf b ts l) n) (wordsN b ts l n) := by
  refine evCong (words_loop b ts l hf (nodeN l n).2.2.2 (node_kids l hs n) (nodeN l n).2.2.2.length 0 [] (by omega) rfl) fun k => ?_
  unfold view_File_Words.f
  rw [if_pos (one_pos b ts l), node_f, Option.bind_some]
  rfl
theorem nodes_l1 (b : List Int) (ts : List S103) (l : List S33) (hf : Fine l ts.length) (ks : List Int) (hk : ks.length ≤ 20) (f0 f1 f2 : Int) : ∀ (d i : Nat), i + d = ks.length →
    Ev (fun k => cavillaw15_ViewNodes.l1 k (ks.map (wordN b ts l)) (ks.length : Int) (i : Int) b ts l f0 f1 f2 ks) true
  | 0, i, h => by
    refine evNext (vworks_ev.bind (f := fun _ t => some t) (Ev.now _)) fun k => ?_
    simp only [cavillaw15_ViewNodes.l1]
    rw [if_neg (by omega)]
  | d + 1, i, h => by
    have hi : i < ks.length := by omega
    have e := rd_nat ks i hi
    have hm : i < (ks.map (wordN b ts l)).length := by rw [List.length_map]; exact hi
    have e2 : rdOf ByteArray.empty (ks.map (wordN b ts l)) (i : Int) = wordN b ts l ks[i] := by
      unfold rdOf
      rw [Int.toNat_natCast, List.getD_eq_getElem?_getD, List.getElem?_eq_getElem hm]
      simp
    obtain ⟨k1, h1⟩ := ev_get (rword_ev b ts l hf ks[i])
    obtain ⟨k2, h2⟩ := ev_get (nodes_l1 b ts l hf ks hk f0 f1 f2 d (i + 1) (by omega))
    refine ⟨k1 + k2 + 1, fun k hk => ?_⟩
    obtain ⟨k, rfl⟩ : ∃ j, k = j + 1 := ⟨k - 1, by omega⟩
    simp only [cavillaw15_ViewNodes.l1]
    rw [if_pos (by omega), if_pos (by omega), if_pos (by rw [List.length_map]; omega), if_pos (by omega), e, h1 k (by omega), Option.bind_some, e2, if_pos rfl, w64_succ hi (show ks.length ≤ 9223372036854775807 by omega)]
    exact h2 k (by omega)
theorem nodes_l0 (b : List Int) (ts : List S103) (l : List S33) (hs : Small l) (hf : Fine l ts.length) (own : List Int) (ho : own.length ≤ 100) (n : Int) : ∀ (d i : Nat), i + d = own.length →
    Ev (fun k => cavillaw15_ViewNodes.l0 k n (fileOf b ts l) own own (own.length : Int) (i : Int) b ts l) true
  | 0, i, h => by
    obtain ⟨k1, h1⟩ := ev_get (words_ev b ts l hs hf n)
    obtain ⟨k8, h8⟩ := ev_get (vworks_ev)
    have hk := node_kids l hs n
    by_cases ci : inN l n
    · have en : nodeN l n = ((rd_T33 l n).f0, (rd_T33 l n).f1, (rd_T33 l n).f2, (rd_T33 l n).f3) := by unfold nodeN; rw [if_pos ci]
      rw [en] at hk
      obtain ⟨k2, h2⟩ := ev_get (nodes_l1 b ts l hf (rd_T33 l n).f3 hk (rd_T33 l n).f0 (rd_T33 l n).f1 (rd_T33 l n).f2 (rd_T33 l n).f3.length 0 (by omega))
      refine ⟨k1 + k2 + k8 + 1, fun k hk => ?_⟩
      obtain ⟨k, rfl⟩ : ∃ j, k = j + 1 := ⟨k - 1, by omega⟩
      simp only [cavillaw15_ViewNodes.l0]
      have ew : wordsN b ts l n = (rd_T33 l n).f3.map (wordN b ts l) := by unfold wordsN; rw [en]
      rw [if_neg (by omega), node_f, Option.bind_some, h1 k (by omega), Option.bind_some, in_f, Option.bind_some, if_pos (decide_eq_true ci), if_pos ci.1, if_pos ci.2, en, ew]
      dsimp only
      rw [if_pos rfl, if_pos rfl, if_pos rfl, if_pos rfl, List.length_map, if_pos rfl]
      exact h2 k (by omega)
    · have en : nodeN l n = (0, 0, 0, []) := by unfold nodeN; rw [if_neg ci]
      refine ⟨k1 + k8 + 1, fun k hk => ?_⟩
      obtain ⟨k, rfl⟩ : ∃ j, k = j + 1 := ⟨k - 1, by omega⟩
      have ew : wordsN b ts l n = [] := by unfold wordsN; rw [en]; rfl
      simp only [cavillaw15_ViewNodes.l0]
      rw [if_neg (by omega), node_f, Option.bind_some, h1 k (by omega), Option.bind_some, in_f, Option.bind_some, if_neg (by simpa using ci), en, ew]
      dsimp only
      rw [if_pos rfl, if_pos (show wrap64 ((([] : List Int).length : Int) + (([] : List ByteArray).length : Int)) = 0 by simp only [List.length_nil]; unfold wrap64; omega), if_pos rfl, h8 k (by omega), Option.bind_some]
  | d + 1, i, h => by
    have hi : i < own.length := by omega
    refine evNext (nodes_l0 b ts l hs hf own ho n d (i + 1) (by omega)) fun k => ?_
    simp only [cavillaw15_ViewNodes.l0]
    rw [if_pos (by omega), if_pos (by omega), if_pos (by omega), if_pos (by omega), if_pos trivial, w64_succ hi (show own.length ≤ 9223372036854775807 by omega)]
theorem ViewNodes_ok (b : List Int) (ts : List S103) (l : List S33) (n i : Int) (h : badOf (fewOf l) ((ts.take 60).length : Int) = none) : ∃ k, cavillaw15_ViewNodes.f k b ts l n i = some true := by
  have hs := few_small l
  have hf := fine_of h
  have ht := take60 ts
  have hr := rcheck_ev (fewOf l) hs ((ts.take 60).length : Int)
  rw [h] at hr
  obtain ⟨k1, h1⟩ := ev_get (few15_ev b ts l)
  obtain ⟨k2, h2⟩ := ev_get (new_ev (b.take 300) (ts.take 60) (fewOf l) hs h)
  obtain ⟨k3, h3⟩ := ev_get hr
  obtain ⟨k4, h4⟩ := ev_get (coded_ev (e := none) (c := 0) rfl)
  obtain ⟨k5, h5⟩ := ev_get (rown15_ev (fewOf l) hs hf (by omega) n)
  obtain ⟨k6, h6⟩ := ev_get (rword_ev (b.take 300) (ts.take 60) (fewOf l) hf n)
  obtain ⟨k7, h7⟩ := ev_get (nodes_l0 (b.take 300) (ts.take 60) (fewOf l) hs hf (ownN (fewOf l) n) (ownN_len hf (by omega) n) n (ownN (fewOf l) n).length 0 (by omega))
  refine ⟨k1 + k2 + k3 + k4 + k5 + k6 + k7, ?_⟩
  unfold cavillaw15_ViewNodes.f
  rw [h1 _ (by omega), Option.bind_some]
  dsimp only
  rw [h2 _ (by omega), Option.bind_some, h3 _ (by omega), Option.bind_some, h4 _ (by omega), Option.bind_some, if_pos (show (0 : Int) = (badR none).1 from rfl), off_none, Option.bind_some, if_pos (show (-1 : Int) = (badR none).2 from rfl), if_neg (by decide), own_f _ _ _ hf (by omega), Option.bind_some, h5 _ (by omega), Option.bind_some, if_pos rfl, kid5_f, Option.bind_some, rkid_f, Option.bind_some, if_pos rfl, word_f _ _ _ hf, Option.bind_some, h6 _ (by omega), Option.bind_some, if_pos rfl]
  exact h7 _ (by omega)
theorem ViewNodes_bad (b : List Int) (ts : List S103) (l : List S33) (n i : Int) {q : Option Nat} (h : badOf (fewOf l) ((ts.take 60).length : Int) = some q) : ∃ k, cavillaw15_ViewNodes_nil.f k b ts l n i = some true := by
  have hs := few_small l
  have hr := rcheck_ev (fewOf l) hs ((ts.take 60).length : Int)
  have hc := bad_coded (some q)
  have ho := bad_off (some q)
  rw [h] at hr
  obtain ⟨e, he⟩ : ∃ e, badE (some q) = some e := by cases q <;> exact ⟨_, rfl⟩
  rw [he] at hc ho
  obtain ⟨k1, h1⟩ := ev_get (few15_ev b ts l)
  have hn : Ev (fun k => view_New_nil.f k (b.take 300) (ts.take 60) (fewOf l)) ((), e) := by
    have := (check_ev (fewOf l) hs ((ts.take 60).length : Int)).bind (f := fun _ t => t.map fun q => ((), q)) (r := ((), e)) ?_
    · exact this
    rw [h, he]
    exact Ev.now _
  obtain ⟨k2, h2⟩ := ev_get hn
  obtain ⟨k3, h3⟩ := ev_get hr
  obtain ⟨k4, h4⟩ := ev_get (coded_ev hc)
  obtain ⟨k8, h8⟩ := ev_get (vworks_ev)
  refine ⟨k1 + k2 + k3 + k4 + k8 + 2, ?_⟩
  unfold cavillaw15_ViewNodes_nil.f
  rw [h1 _ (by omega), Option.bind_some]
  dsimp only
  rw [h2 _ (by omega), Option.bind_some, h3 _ (by omega), Option.bind_some]
  dsimp only
  rw [h4 _ (by omega), Option.bind_some, if_pos rfl, ho, Option.bind_some, if_pos rfl, if_neg (show ¬ (true != ((badR (some q)).1 != 0)) = true by cases q <;> simp [badR])]
  have e0 : view_File_Node_nil.f () n = some (0, 0, 0, []) := rfl
  have e1 : view_File_Kid_nil.f () n i = some (-1) := by
    unfold view_File_Kid_nil.f
    rw [e0, Option.bind_some]
    by_cases c : i < 0
    · rw [if_pos c]
    · rw [if_neg c, if_pos (by simp; omega)]
  have e2 : view_File_Word_nil.f () n = some ⟨#[]⟩ := rfl
  have e3 : view_File_Words_nil.f (k1 + k2 + k3 + k4 + k8 + 2) () n = some [] := rfl
  have e4 : view_File_Own_nil.f () n = some [] := rfl
  rw [e0, Option.bind_some, if_pos rfl, e1, Option.bind_some, if_pos rfl, e2, Option.bind_some, if_pos (show (⟨#[]⟩ : ByteArray).toList = ([] : List UInt8) by decide +kernel), e3, Option.bind_some, e4, Option.bind_some, if_pos (show wrap64 ((([] : List ByteArray).length : Int) + (([] : List Int).length : Int)) = 0 by simp only [List.length_nil]; unfold wrap64; omega), h8 _ (by omega), Option.bind_some]
end Go.Proofs.YtnpgadfoohjlnaaDoor.Plain
