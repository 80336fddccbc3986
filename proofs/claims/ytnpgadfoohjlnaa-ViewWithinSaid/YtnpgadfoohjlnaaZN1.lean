/- A file's nodes, plain: a node, its own tokens, its place. No condition beyond what each lemma says. -/
import Derived.Test.YtnpgadfoohjlnaaZT6
import Derived.Test.YtnpgadfoohjlnaaZT3
import Derived.Test.YtnpgadfoohjlnaaQV6
import Derived.Test.YtnpgadfoohjlnaaQV5
namespace Go.Proofs.Ytnpgadfoohjlnaa.Plain
open Go.RowKit Go.Proofs.YtnpgadfoohjlnaaW.PrintWords Go.Proofs.YtnpgadfoohjlnaaW.PrintLast Go.Proofs.YtnpgadfoohjlnaaW.PrintMore Go.Proofs.Ytnpgadfoohjlnaa.QV

abbrev fileOf (b : List Int) (ts : List S38) (l : List S44) : List S72 := [(⟨b, ts, ⟨l⟩⟩ : S72)]
abbrev inN (l : List S44) (n : Int) : Prop := 0 ≤ n ∧ n < l.length
theorem rd_file (b : List Int) (ts : List S38) (l : List S44) : rd_T72 (fileOf b ts l) 0 = ⟨b, ts, ⟨l⟩⟩ := rfl
def nodeN (l : List S44) (n : Int) : Int × Int × Int × List Int := if inN l n then ((rd_T44 l n).f0, (rd_T44 l n).f1, (rd_T44 l n).f2, (rd_T44 l n).f3) else (0, 0, 0, [])
theorem one_pos (b : List Int) (ts : List S38) (l : List S44) : (0 : Int) < ((fileOf b ts l).length : Int) := by show (0 : Int) < ((1 : Nat) : Int); omega
theorem node_f (b : List Int) (ts : List S38) (l : List S44) (n : Int) : view_File_Node.f (fileOf b ts l) n = some (nodeN l n) := by
  unfold view_File_Node.f nodeN
  rw [if_pos (one_pos b ts l)]
  rw [rd_file]
  dsimp only
  by_cases c : n < 0
  · rw [if_pos c, if_neg (by omega)]
  · rw [if_neg c]
    by_cases c1 : n < l.length
    · rw [if_neg (show ¬ n ≥ (l.length : Int) by omega), if_pos (by omega), if_pos (show n < (l.length : Int) from c1), if_pos ⟨by omega, c1⟩]
    · rw [if_pos (show n ≥ (l.length : Int) by omega), if_neg (by omega)]
theorem uptoV : ∀ (d : Nat) (s : List Int) (a : Int), 0 ≤ a → a + d ≤ 1000 → s.length + d ≤ 1000 → view_File_Own.upto d s a = some (s ++ toks a d)
  | 0, s, a, _, _, _ => by simp [view_File_Own.upto, toks]
  | d + 1, s, a, h0, h1, h2 => by
    rw [view_File_Own.upto, if_pos (by omega), uptoV d (s ++ [a]) (a + 1) (by omega) (by omega) (by rw [List.length_append, List.length_singleton]; omega), toks, List.append_assoc]
    rfl
theorem runV (b : List Int) (ts : List S38) (l : List S44) (z : Int) (hz : z ≤ 100) : ∀ (ks : List Int) (a : Int) (s : List Int), (∀ k ∈ ks, 0 ≤ k ∧ k < l.length ∧ (rd_T44 l k).f1 ≤ (rd_T44 l k).f2) → 0 ≤ a → (s.length : Int) ≤ a → chain l a ks z = true →
    view_File_Own.run (fileOf b ts l) ks s a z = some (s ++ ownL l a z ks)
  | [], a, s, _, h0, hs, h => by
    have h1 : a ≤ z := by simpa [chain] using h
    rw [view_File_Own.run, uptoV _ _ _ h0 (by omega) (by omega)]
    unfold ownL
    have e : (toks a (z - a).toNat).filter (fun x => noKid l x []) = toks a (z - a).toNat := List.filter_eq_self.2 fun x _ => rfl
    rw [e]
  | k :: ks, a, s, hk, h0, hs, h => by
    have hk1 := hk k (List.mem_cons_self ..)
    have e := ownL_cons l a z k ks (fun q hq => (hk q hq).2.2) h
    have hl := chain_le l z _ a (fun q hq => (hk q hq).2.2) h
    rw [chain] at h
    split at h
    case isFalse => cases h
    rename_i c
    have hl2 := chain_le l z ks _ (fun q hq => (hk q (List.mem_cons_of_mem _ hq)).2.2) h
    have en : nodeN l k = ((rd_T44 l k).f0, (rd_T44 l k).f1, (rd_T44 l k).f2, (rd_T44 l k).f3) := by
      unfold nodeN
      rw [if_pos ⟨hk1.1, hk1.2.1⟩]
    rw [view_File_Own.run, node_f, Option.bind_some, en]
    dsimp only
    rw [uptoV _ _ _ h0 (by omega) (by omega), Option.bind_some, runV b ts l z hz ks _ _ (fun q hq => hk q (List.mem_cons_of_mem _ hq)) (by omega) (by rw [List.length_append, toks_len]; omega) h, e, List.append_assoc]
def ownN (l : List S44) (n : Int) : List Int := if inN l n then ownOf l (rd_T44 l n) else []
theorem own_f (b : List Int) (ts : List S38) (l : List S44) {t : Int} (hf : Fine l t) (ht : t ≤ 100) (n : Int) : view_File_Own.f (fileOf b ts l) n = some (ownN l n) := by
  unfold view_File_Own.f ownN
  rw [node_f, Option.bind_some]
  by_cases c : inN l n
  · obtain ⟨i, rfl⟩ := Int.eq_ofNat_of_zero_le c.1
    have hi : i < l.length := by have := c.2; omega
    unfold nodeN
    rw [if_pos c, if_pos c, rd33_nat l i hi]
    obtain ⟨⟨_, _, h1, h2, h3⟩, h4⟩ := hf.head i hi
    refine runV b ts l l[i].f2 (by omega) l[i].f3 l[i].f1 [] (fun k hk => ?_) h1 h1 h4
    obtain ⟨a, b⟩ := hf.kid i hi k hk
    obtain ⟨m, rfl⟩ := Int.eq_ofNat_of_zero_le a
    have hm : m < l.length := by omega
    refine ⟨a, by omega, ?_⟩
    rw [rd33_nat l m hm]
    exact (hf.head m hm).1.2.2.2.1
  · unfold nodeN
    rw [if_neg c, if_neg c]
    rfl
theorem ownN_mem {l : List S44} {t : Int} (hf : Fine l t) {n x : Int} (hx : x ∈ ownN l n) : 0 ≤ x ∧ x < t := by
  unfold ownN at hx
  split at hx
  · rename_i c
    obtain ⟨i, rfl⟩ := Int.eq_ofNat_of_zero_le c.1
    have hi : i < l.length := by have := c.2; omega
    rw [rd33_nat l i hi] at hx
    have := toks_mem.1 (List.mem_filter.1 hx).1
    obtain ⟨⟨_, _, h1, h2, h3⟩, _⟩ := hf.head i hi
    omega
  · cases hx
theorem ownN_len {l : List S44} {t : Int} (hf : Fine l t) (ht : t ≤ 100) (n : Int) : (ownN l n).length ≤ 100 := by
  unfold ownN
  split
  · rename_i c
    obtain ⟨i, rfl⟩ := Int.eq_ofNat_of_zero_le c.1
    have hi : i < l.length := by have := c.2; omega
    rw [rd33_nat l i hi]
    obtain ⟨⟨_, _, h1, h2, h3⟩, _⟩ := hf.head i hi
    refine Nat.le_trans (List.length_filter_le ..) ?_
    rw [toks_len]
    omega
  · simp
/-- Where a node stands. -/
def spanN (ts : List S38) (l : List S44) (n : Int) : Int × Int :=
  if inN l n then
    (if (rd_T44 l n).f1 < (rd_T44 l n).f2 then ((rd_T38 ts (rd_T44 l n).f1).f1, (rd_T38 ts ((rd_T44 l n).f2 - 1)).f2)
     else if (rd_T44 l n).f1 < ts.length then ((rd_T38 ts (rd_T44 l n).f1).f1, (rd_T38 ts (rd_T44 l n).f1).f1)
     else if 0 < ts.length then ((rd_T38 ts ((ts.length : Int) - 1)).f2, (rd_T38 ts ((ts.length : Int) - 1)).f2)
     else (0, 0))
  else (0, 0)
theorem Fine.rdh {l : List S44} {t : Int} (hf : Fine l t) {n : Int} (c : inN l n) : 0 ≤ (rd_T44 l n).f1 ∧ (rd_T44 l n).f1 ≤ (rd_T44 l n).f2 ∧ (rd_T44 l n).f2 ≤ t := by
  obtain ⟨i, rfl⟩ := Int.eq_ofNat_of_zero_le c.1
  have hi : i < l.length := by have := c.2; omega
  rw [rd33_nat l i hi]
  obtain ⟨⟨_, _, h1, h2, h3⟩, _⟩ := hf.head i hi
  exact ⟨h1, h2, h3⟩
theorem span_ev (b : List Int) (ts : List S38) (l : List S44) (hf : Fine l ts.length) (ht : ts.length ≤ 100) (n : Int) : Ev (fun k => view_File_Span.f k (fileOf b ts l) n) (spanN ts l n) := by
  unfold spanN
  by_cases c : inN l n
  · have hh := hf.rdh c
    have c' := c
    rw [if_pos c]
    refine evNext (f := fun _ => some _) (Ev.now _) fun k => ?_
    unfold view_File_Span.f
    rw [if_pos (one_pos b ts l), if_neg (by omega)]
    simp only [view_File_Span.j0]
    rw [rd_file]
    dsimp only
    rw [decide_eq_false (show ¬ n ≥ (l.length : Int) by omega), if_neg (by simp), if_pos (one_pos b ts l), if_pos c'.1, if_pos c'.2]
    by_cases c1 : (rd_T44 l n).f1 < (rd_T44 l n).f2
    · rw [if_pos c1, if_pos c1, if_pos (by omega), if_pos (by omega), w64_id (by omega) (by omega), if_pos (by omega), if_pos (by omega)]
    · rw [if_neg c1, if_neg c1]
      by_cases c2 : (rd_T44 l n).f1 < (ts.length : Int)
      · rw [if_pos c2, if_pos c2, if_pos (by omega)]
      · rw [if_neg c2, if_neg c2]
        by_cases c3 : 0 < ts.length
        · rw [if_pos (by omega), if_pos c3, w64_id (by omega) (by omega), if_pos (by omega), if_pos (by omega)]
        · rw [if_neg (by omega), if_neg c3]
  · rw [if_neg c]
    refine evNext (f := fun _ => some _) (Ev.now _) fun k => ?_
    unfold view_File_Span.f
    rw [if_pos (one_pos b ts l)]
    simp only [view_File_Span.j0]
    rw [rd_file]
    dsimp only
    by_cases c1 : n < 0
    · rw [if_pos c1, if_pos trivial]
    · rw [if_neg c1, decide_eq_true (show n ≥ (l.length : Int) by omega), if_pos rfl]
end Go.Proofs.Ytnpgadfoohjlnaa.Plain
