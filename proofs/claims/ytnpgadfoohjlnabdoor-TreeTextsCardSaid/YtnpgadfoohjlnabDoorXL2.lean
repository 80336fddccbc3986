/- Trees, plain: a tree's text. No condition beyond what each lemma says. -/
import Derived.Test.YtnpgadfoohjlnabDoorXT8
import Derived.Test.YtnpgadfoohjlnabDoorQX4
namespace Go.Proofs.YtnpgadfoohjlnabDoor.Plain
open Go.RowKit Go.Proofs.YtnpgadfoohjlnabDoorW.PrintWords Go.Proofs.YtnpgadfoohjlnabDoorW.PrintLast Go.Proofs.YtnpgadfoohjlnabDoorW.PrintMore Go.Proofs.YtnpgadfoohjlnabDoor.QX

/-- One token's text. -/
def tokT (t : Int) : List UInt8 := 32 :: tree_Text.dig t.toNat
/-- A node's tokens and children in order; T tells the children's texts. -/
def segT (l : List S34) (T : Int → List UInt8) : Int → List Int → Int → List UInt8
  | a, [], z => (toks a (z - a).toNat).flatMap tokT
  | a, k :: ks, z => (toks a ((rd_T34 l k).f1 - a).toNat).flatMap tokT ++ (32 :: T k ++ segT l T (rd_T34 l k).f2 ks z)
/-- A node's text. -/
def txtT (l : List S34) : Nat → Int → List UInt8
  | 0, _ => []
  | f + 1, i => 40 :: tree_Text.dig (rd_T34 l i).f0.toNat ++ segT l (txtT l f) (rd_T34 l i).f1 (rd_T34 l i).f3 (rd_T34 l i).f2 ++ [41]
theorem segT_congr (l : List S34) {T T' : Int → List UInt8} (z : Int) : ∀ (ks : List Int) (a : Int), (∀ k ∈ ks, T k = T' k) → segT l T a ks z = segT l T' a ks z
  | [], _, _ => rfl
  | k :: ks, a, h => by
    rw [segT, segT, h k (List.mem_cons_self ..), segT_congr l z ks _ fun q hq => h q (List.mem_cons_of_mem _ hq)]
theorem txtT_eq {l : List S34} {t : Int} (hf : Fine l t) : ∀ (f g i : Nat), i < l.length → i < f → i < g → txtT l f i = txtT l g i
  | 0, g, i, _, h, _ => by omega
  | f + 1, 0, i, _, _, h => by omega
  | f + 1, g + 1, i, hi, h1, h2 => by
    have e := segT_congr l (T := txtT l f) (T' := txtT l g) l[i].f2 l[i].f3 l[i].f1 fun k hk => by
      obtain ⟨a, b⟩ := hf.kid i hi k hk
      obtain ⟨n, rfl⟩ := Int.eq_ofNat_of_zero_le a
      exact txtT_eq hf f g n (by omega) (by omega) (by omega)
    rw [txtT, txtT, rd33_nat l i hi, e]
/-! sizes -/
def tsum (tx : List ByteArray) : Nat := (tx.map ByteArray.size).sum
theorem tsum_set : ∀ (tx : List ByteArray) (k : Nat) (x : ByteArray), k < tx.length → tsum (tx.set k x) + (tx.getD k ⟨#[]⟩).size = tsum tx + x.size
  | [], k, x, h => by simp at h
  | y :: tx, 0, x, _ => by
    simp only [List.set_cons_zero, tsum, List.map_cons, List.sum_cons, List.getD_cons_zero]
    omega
  | y :: tx, k + 1, x, h => by
    have := tsum_set tx k x (by simpa using h)
    simp only [List.set_cons_succ, tsum, List.map_cons, List.sum_cons, List.getD_cons_succ] at this ⊢
    omega
theorem tsum_get (tx : List ByteArray) (k : Nat) (h : k < tx.length) : (tx.getD k ⟨#[]⟩).size ≤ tsum tx := by
  have := tsum_set tx k ⟨#[]⟩ h
  have e : (⟨#[]⟩ : ByteArray).size = 0 := rfl
  omega
theorem tokT_len (t : Int) : (tokT t).length ≤ 3 := by
  unfold tokT
  have := tree_Text.dig_len t.toNat
  rw [List.length_cons]
  omega
theorem flat_len : ∀ ts : List Int, (ts.flatMap tokT).length ≤ 3 * ts.length
  | [] => Nat.le_refl _
  | t :: ts => by
    rw [List.flatMap_cons, List.length_append, List.length_cons]
    have := flat_len ts
    have := tokT_len t
    omega
theorem upto_text : ∀ (d : Nat) (s : List UInt8) (tx : List ByteArray) (a : Int), 0 ≤ a → a + d ≤ 100 → s.length + 3 * d ≤ 1000000 → tree_parts.upto tree_Text.tok d (s, tx) a = some (s ++ (toks a d).flatMap tokT, tx)
  | 0, s, tx, a, _, _, _ => by simp [tree_parts.upto, toks]
  | d + 1, s, tx, a, h0, h1, h2 => by
    have e : tree_Text.tok (s, tx) a = some (s ++ tokT a, tx) := by
      unfold tree_Text.tok
      rw [if_pos ⟨h0, by omega, by show s.length + 4 ≤ _; omega⟩]
      rfl
    have hl := tokT_len a
    rw [tree_parts.upto, if_pos (by omega), e, Option.bind_some, upto_text d _ tx (a + 1) (by omega) (by omega) (by rw [List.length_append]; omega), toks, List.flatMap_cons, List.append_assoc]
def clr (tx : List ByteArray) (ks : List Int) : List ByteArray := ks.foldl (fun tx k => tx.set k.toNat ⟨#[]⟩) tx
theorem clr_len : ∀ (ks : List Int) (tx : List ByteArray), (clr tx ks).length = tx.length
  | [], tx => rfl
  | k :: ks, tx => by
    show (clr (tx.set k.toNat ⟨#[]⟩) ks).length = _
    rw [clr_len ks, List.length_set]
theorem clr_far : ∀ (ks : List Int) (tx : List ByteArray) (j : Nat), (∀ k ∈ ks, k.toNat ≠ j) → (clr tx ks).getD j ⟨#[]⟩ = tx.getD j ⟨#[]⟩
  | [], tx, j, _ => rfl
  | k :: ks, tx, j, h => by
    show (clr (tx.set k.toNat ⟨#[]⟩) ks).getD j ⟨#[]⟩ = _
    rw [clr_far ks _ j fun q hq => h q (List.mem_cons_of_mem _ hq), List.getD_eq_getElem?_getD, List.getD_eq_getElem?_getD, List.getElem?_set_ne (h k (List.mem_cons_self ..))]
theorem run_text (l : List S34) (T : Int → List UInt8) (z : Int) (hz : z ≤ 100) : ∀ (ks : List Int) (a : Int) (s : List UInt8) (tx : List ByteArray), ks.Nodup → (∀ k ∈ ks, 0 ≤ k ∧ k < l.length ∧ (rd_T34 l k).f1 ≤ (rd_T34 l k).f2) → (∀ k ∈ ks, tx.getD k.toNat ⟨#[]⟩ = ⟨(T k).toArray⟩) → tx.length = l.length → 0 ≤ a → chain l a ks z = true → s.length + tsum tx + 3 * (z - a).toNat + ks.length ≤ 1000000 →
    tree_parts.run tree_Text.tok tree_Text.kid l ks a z (s, tx) = some (s ++ segT l T a ks z, clr tx ks) ∧ (s ++ segT l T a ks z).length + tsum (clr tx ks) ≤ s.length + tsum tx + 3 * (z - a).toNat + ks.length
  | [], a, s, tx, _, _, _, _, h0, h, hb => by
    have h1 : a ≤ z := by simpa [chain] using h
    have hl := flat_len (toks a (z - a).toNat)
    rw [toks_len] at hl
    rw [tree_parts.run, upto_text _ _ _ _ h0 (by omega) (by omega)]
    refine ⟨rfl, ?_⟩
    rw [segT, List.length_append]
    show _ + tsum tx ≤ _
    simp only [List.length_nil]
    omega
  | k :: ks, a, s, tx, hn, hk, ht, htl, h0, h, hb => by
    have hk1 := hk k (List.mem_cons_self ..)
    have hl := chain_le l z _ a (fun q hq => (hk q hq).2.2) h
    rw [chain] at h
    split at h
    case isFalse => cases h
    rename_i c
    have hl2 := chain_le l z ks _ (fun q hq => (hk q (List.mem_cons_of_mem _ hq)).2.2) h
    obtain ⟨hn1, hn2⟩ := List.nodup_cons.1 hn
    have hfl := flat_len (toks a ((rd_T34 l k).f1 - a).toNat)
    rw [toks_len] at hfl
    have hkl : k.toNat < tx.length := by omega
    have hts := tsum_set tx k.toNat ⟨#[]⟩ hkl
    have hz0 : (⟨#[]⟩ : ByteArray).size = 0 := rfl
    have hT := ht k (List.mem_cons_self ..)
    have hTs : (tx.getD k.toNat ⟨#[]⟩).size = (T k).length := by
      rw [hT]
      show (T k).toArray.size = _
      simp
    rw [List.length_cons] at hb
    rw [tree_parts.run, if_pos hk1.1, if_pos hk1.2.1, upto_text _ _ _ _ h0 (by omega) (by omega), Option.bind_some]
    have e : tree_Text.kid (s ++ (toks a ((rd_T34 l k).f1 - a).toNat).flatMap tokT, tx) k = some (s ++ (toks a ((rd_T34 l k).f1 - a).toNat).flatMap tokT ++ 32 :: T k, tx.set k.toNat ⟨#[]⟩) := by
      unfold tree_Text.kid
      rw [if_pos ⟨hk1.1, by show k < (tx.length : Int); omega, by
        show (s ++ (toks a ((rd_T34 l k).f1 - a).toNat).flatMap tokT).length + (1 + (tx.getD k.toNat ⟨#[]⟩).size) ≤ _
        rw [List.length_append]
        omega⟩]
      show some (_ ++ 32 :: (tx.getD k.toNat ⟨#[]⟩).data.toList, _) = _
      rw [hT]
    rw [e, Option.bind_some]
    have ih := run_text l T z hz ks (rd_T34 l k).f2 (s ++ (toks a ((rd_T34 l k).f1 - a).toNat).flatMap tokT ++ 32 :: T k) (tx.set k.toNat ⟨#[]⟩) hn2 (fun q hq => hk q (List.mem_cons_of_mem _ hq)) (fun q hq => by
      have hq1 := hk q (List.mem_cons_of_mem _ hq)
      rw [List.getD_eq_getElem?_getD, List.getElem?_set_ne (fun e => hn1 (by rw [show k = q by omega]; exact hq)), ← List.getD_eq_getElem?_getD]
      exact ht q (List.mem_cons_of_mem _ hq)) (by rw [List.length_set]; exact htl) (by omega) h (by
      rw [List.length_append, List.length_append, List.length_cons]
      omega)
    refine ⟨?_, ?_⟩
    · rw [ih.1, segT]
      simp only [List.append_assoc, List.cons_append]
      rfl
    · have h2 := ih.2
      rw [segT]
      show _ + tsum (clr (tx.set k.toNat ⟨#[]⟩) ks) ≤ _
      simp only [List.length_append, List.length_cons] at h2 ⊢
      omega
theorem Fine.kids1 {l : List S34} {t : Int} (h : Fine l t) (i : Nat) (hi : i < l.length) : l[i].f3.Nodup := by
  rw [List.nodup_iff_count]
  intro k
  by_cases hk : k ∈ l[i].f3
  · obtain ⟨a, b⟩ := h.kid i hi k hk
    obtain ⟨n, rfl⟩ := Int.eq_ofNat_of_zero_le a
    have ho := h.occ n (by omega)
    have h1 := occ_take l i hi n
    have h2 := occ_two.occ_le_take l n l n (i + 1) l.length (by omega)
    rw [List.take_of_length_le (Nat.le_refl _)] at h2
    omega
  · rw [List.count_eq_zero.2 hk]
    omega
/-- The texts of the first nodes that no node has used yet. -/
structure Have (l : List S34) (i : Nat) (tx : List ByteArray) : Prop where
  len : tx.length = l.length
  txt : ∀ j : Nat, j < i → (∀ p : Nat, p < i → (j : Int) ∉ (rd_T34 l p).f3) → tx.getD j ⟨#[]⟩ = ⟨(txtT l l.length j).toArray⟩
  sum : tsum tx ≤ 400 * i
theorem node_ev (l : List S34) (hs : Small l) {t : Int} (hf : Fine l t) (ht : t ≤ 100) (i : Nat) (hi : i < l.length) (tx : List ByteArray) (h : Have l i tx) :
    ∃ tx', tree_Text.node l i tx = some tx' ∧ Have l (i + 1) tx' ∧ (txtT l l.length i).length ≤ 400 * (i + 1) := by
  have hl := hs.1
  obtain ⟨⟨hd1, hd2, hd3, hd4, hd5⟩, hc⟩ := hf.head i hi
  have hk := hs.2 _ (List.getElem_mem hi)
  have hdl := tree_Text.dig_len l[i].f0.toNat
  have one : ∀ k ∈ l[i].f3, ∀ p : Nat, p < l.length → p ≠ i → k ∉ (rd_T34 l p).f3 := fun k hkk p hp hne hm => by
    obtain ⟨a, b⟩ := hf.kid i hi k hkk
    obtain ⟨n, rfl⟩ := Int.eq_ofNat_of_zero_le a
    obtain ⟨q, q1, q2, q3, q4⟩ := hf.par n (by omega)
    have e1 : i = q := Classical.byContradiction fun hne' => q4 i hi hne' (by rw [rd33_nat l i hi]; exact hkk)
    exact q4 p hp (fun e => hne (by omega)) hm
  have hsum := h.sum
  have hrun := run_text l (txtT l l.length) l[i].f2 (by omega) l[i].f3 l[i].f1 (40 :: tree_Text.dig l[i].f0.toNat) tx (hf.kids1 i hi) (fun k hkk => by
    obtain ⟨a, b⟩ := hf.kid i hi k hkk
    exact ⟨a, by omega, hf.le i hi k hkk⟩) (fun k hkk => by
    obtain ⟨a, b⟩ := hf.kid i hi k hkk
    obtain ⟨n, rfl⟩ := Int.eq_ofNat_of_zero_le a
    rw [Int.toNat_natCast]
    exact h.txt n (by omega) fun p hp => one n hkk p (by omega) (by omega)) h.len hd3 hc (by rw [List.length_cons]; omega)
  obtain ⟨hr1, hr2⟩ := hrun
  rw [List.length_cons] at hr2
  have eT : txtT l l.length i = 40 :: tree_Text.dig l[i].f0.toNat ++ segT l (txtT l l.length) l[i].f1 l[i].f3 l[i].f2 ++ [41] := by
    rw [txtT_eq hf l.length (l.length + 1) i hi hi (by omega), txtT, rd33_nat l i hi]
  have hlen : (txtT l l.length i).length + tsum (clr tx l[i].f3) ≤ 400 * (i + 1) := by
    rw [eT, List.length_append, List.length_singleton]
    omega
  refine ⟨(clr tx l[i].f3).set i ⟨(txtT l l.length i).toArray⟩, ?_, ⟨?_, ?_, ?_⟩, by omega⟩
  · unfold tree_Text.node
    rw [rd33_nat l i hi, if_pos (by omega), hr1, Option.bind_some]
    show (if (40 :: tree_Text.dig l[i].f0.toNat ++ segT l (txtT l l.length) l[i].f1 l[i].f3 l[i].f2).length + 1 ≤ 140737488355328 then some ((clr tx l[i].f3).set i ⟨((40 :: tree_Text.dig l[i].f0.toNat ++ segT l (txtT l l.length) l[i].f1 l[i].f3 l[i].f2) ++ [41]).toArray⟩) else none) = _
    rw [if_pos (by omega), ← eT]
  · rw [List.length_set, clr_len, h.len]
  · intro j hj hp
    by_cases e : j = i
    · subst e
      rw [List.getD_eq_getElem?_getD, List.getElem?_set_self (by rw [clr_len, h.len]; exact hi)]
      rfl
    · have hji : (j : Int) ∉ l[i].f3 := by
        have := hp i (by omega)
        rw [rd33_nat l i hi] at this
        exact this
      rw [List.getD_eq_getElem?_getD, List.getElem?_set_ne (fun h => e h.symm), ← List.getD_eq_getElem?_getD, clr_far _ _ _ fun k hkk he => by
        obtain ⟨a, b⟩ := hf.kid i hi k hkk
        exact hji (by rw [show (j : Int) = k by omega]; exact hkk)]
      exact h.txt j (by omega) fun p hpp => hp p (by omega)
  · have h2 := tsum_set (clr tx l[i].f3) i ⟨(txtT l l.length i).toArray⟩ (by rw [clr_len, h.len]; exact hi)
    have h3 : (⟨(txtT l l.length i).toArray⟩ : ByteArray).size = (txtT l l.length i).length := by
      show (txtT l l.length i).toArray.size = _
      simp
    omega
theorem go_ev (l : List S34) (hs : Small l) {t : Int} (hf : Fine l t) (ht : t ≤ 100) : ∀ (d i : Nat) (tx : List ByteArray), i + d = l.length → Have l i tx →
    ∃ tx', tree_Text.go l d i tx = some tx' ∧ Have l l.length tx' ∧ ∀ j : Nat, i ≤ j → j < l.length → (txtT l l.length j).length ≤ 400 * (j + 1)
  | 0, i, tx, h, hh => by
    obtain rfl : i = l.length := by omega
    exact ⟨tx, rfl, hh, fun j h1 h2 => by omega⟩
  | d + 1, i, tx, h, hh => by
    obtain ⟨tx1, h1, h2, h3⟩ := node_ev l hs hf ht i (by omega) tx hh
    obtain ⟨tx2, g1, g2, g3⟩ := go_ev l hs hf ht d (i + 1) tx1 (by omega) h2
    refine ⟨tx2, ?_, g2, fun j a b => ?_⟩
    · rw [tree_Text.go, h1, Option.bind_some, g1]
    · by_cases e : j = i
      · rw [e]
        exact h3
      · exact g3 j (by omega) b
abbrev textTail (l : List S34) (_ : Nat) (t : Option Er) : Option (ByteArray × Option Er) := if t.isNone = true then (if 0 < l.length ∧ l.length ≤ 17592186044416 then (tree_Text.go l l.length 0 (List.replicate l.length ⟨#[]⟩)).bind fun txt => some (txt.getD (l.length - 1) ⟨#[]⟩, none) else none) else some ((⟨#[]⟩ : ByteArray), some (t.getD (Er.no 0)))
theorem text_bad (l : List S34) (hs : Small l) {b : Option Nat} (h : badRoot l = some b) : Ev (fun k => tree_Text.f k l) (⟨#[]⟩, badE (some b)) := by
  unfold tree_Text.f
  refine (sound_ev l hs).bind (f := textTail l) ?_
  rw [h]
  refine evCong (Ev.now _) fun k => ?_
  cases b <;> rfl
theorem have0 (l : List S34) : Have l 0 (List.replicate l.length ⟨#[]⟩) := by
  refine ⟨List.length_replicate, fun j hj => by omega, ?_⟩
  have : ∀ n : Nat, tsum (List.replicate n (⟨#[]⟩ : ByteArray)) = 0 := fun n => by
    induction n with
    | zero => rfl
    | succ n ih =>
      rw [List.replicate_succ]
      show (⟨#[]⟩ : ByteArray).size + tsum (List.replicate n (⟨#[]⟩ : ByteArray)) = 0
      rw [ih]
      rfl
  rw [this]
  exact Nat.zero_le _
theorem text_len (l : List S34) (hs : Small l) {t : Int} (hf : Fine l t) (ht : t ≤ 100) (j : Nat) (hj : j < l.length) : (txtT l l.length j).length ≤ 20000 := by
  obtain ⟨_, _, _, h3⟩ := go_ev l hs hf ht l.length 0 _ (by omega) (have0 l)
  have := h3 j (by omega) hj
  have := hs.1
  omega
theorem text_ev (l : List S34) (hs : Small l) (h : badRoot l = none) (ht : rootTo l ≤ 100) : Ev (fun k => tree_Text.f k l) (⟨(txtT l l.length ((l.length - 1 : Nat) : Int)).toArray⟩, none) := by
  have hl := hs.1
  have hf := fine_of h
  have hp := hf.ne
  unfold tree_Text.f
  refine (sound_ev l hs).bind (f := textTail l) ?_
  rw [h]
  obtain ⟨tx, h1, h2, _⟩ := go_ev l hs hf ht l.length 0 _ (by omega) (have0 l)
  refine evCong (Ev.now _) fun k => ?_
  unfold textTail
  rw [if_pos (show (badE none).isNone = true from rfl), if_pos (by omega), h1, Option.bind_some, h2.txt (l.length - 1) (by omega) fun p hp' hm => by
    rw [rd33_nat l p hp'] at hm
    have := (hf.kid p hp' _ hm).2
    omega]
end Go.Proofs.YtnpgadfoohjlnabDoor.Plain
