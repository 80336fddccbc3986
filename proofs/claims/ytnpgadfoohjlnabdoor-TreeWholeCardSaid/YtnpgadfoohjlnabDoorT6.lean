/- Trees, plain: a node's own tokens. No condition beyond what each lemma says. -/
import Derived.Test.YtnpgadfoohjlnabDoorT4
import Derived.Test.YtnpgadfoohjlnabDoorQT5
import Derived.Test.YtnpgadfoohjlnabDoorQT1
namespace Go.Proofs.YtnpgadfoohjlnabDoor.Plain
open Go.RowKit Go.Proofs.YtnpgadfoohjlnabDoorW.PrintWords Go.Proofs.YtnpgadfoohjlnabDoorW.PrintLast Go.Proofs.YtnpgadfoohjlnabDoorW.PrintMore Go.Proofs.YtnpgadfoohjlnabDoor.QT

/-- So many numbers from one on. -/
def toks (a : Int) : Nat → List Int
  | 0 => []
  | d + 1 => a :: toks (a + 1) d
theorem toks_len (a : Int) (d : Nat) : (toks a d).length = d := by
  induction d generalizing a with
  | zero => rfl
  | succ d ih => simp [toks, ih]
theorem toks_mem {x : Int} : ∀ {d : Nat} {a : Int}, x ∈ toks a d ↔ a ≤ x ∧ x < a + d
  | 0, a => by simp only [toks, List.not_mem_nil, false_iff]; omega
  | d + 1, a => by
    rw [toks, List.mem_cons, toks_mem]
    omega
theorem toks_add (a : Int) (b c : Nat) : toks a (b + c) = toks a b ++ toks (a + b) c := by
  induction b generalizing a with
  | zero => simp [toks]
  | succ b ih =>
    rw [show b + 1 + c = (b + c) + 1 by omega, toks, toks, ih, List.cons_append]
    congr 3
    omega
/-- In none of the children. -/
def noKid (l : List S34) (x : Int) : List Int → Bool
  | [] => true
  | k :: ks => if (rd_T34 l k).f1 ≤ x ∧ x < (rd_T34 l k).f2 then false else noKid l x ks
theorem noKid_lo (l : List S34) (x : Int) : ∀ ks : List Int, (∀ k ∈ ks, x < (rd_T34 l k).f1) → noKid l x ks = true
  | [], _ => rfl
  | k :: ks, h => by
    have := h k (List.mem_cons_self ..)
    rw [noKid, if_neg (by omega)]
    exact noKid_lo l x ks fun q hq => h q (List.mem_cons_of_mem _ hq)
theorem chain_le (l : List S34) (z : Int) : ∀ (ks : List Int) (a : Int), (∀ k ∈ ks, (rd_T34 l k).f1 ≤ (rd_T34 l k).f2) → chain l a ks z = true → a ≤ z ∧ ∀ k ∈ ks, a ≤ (rd_T34 l k).f1
  | [], a, _, h => ⟨by simpa [chain] using h, fun k hk => by cases hk⟩
  | k :: ks, a, hk, h => by
    rw [chain] at h
    split at h
    · rename_i c
      have h1 := hk k (List.mem_cons_self ..)
      have ⟨h2, h3⟩ := chain_le l z ks _ (fun q hq => hk q (List.mem_cons_of_mem _ hq)) h
      refine ⟨by omega, fun q hq => ?_⟩
      rcases List.mem_cons.1 hq with rfl | hq
      · exact c
      · have := h3 q hq
        omega
    · cases h
/-- All of a node's numbers that none of its children hold. -/
def ownL (l : List S34) (a z : Int) (ks : List Int) : List Int := (toks a (z - a).toNat).filter fun x => noKid l x ks
theorem ownL_cons (l : List S34) (a z k : Int) (ks : List Int) (hk : ∀ q ∈ k :: ks, (rd_T34 l q).f1 ≤ (rd_T34 l q).f2) (h : chain l a (k :: ks) z = true) :
    ownL l a z (k :: ks) = toks a ((rd_T34 l k).f1 - a).toNat ++ ownL l (rd_T34 l k).f2 z ks := by
  rw [chain] at h
  split at h
  case isFalse => cases h
  rename_i c
  have h1 := hk k (List.mem_cons_self ..)
  have ⟨h2, h3⟩ := chain_le l z ks _ (fun q hq => hk q (List.mem_cons_of_mem _ hq)) h
  have e : (z - a).toNat = ((rd_T34 l k).f1 - a).toNat + (((rd_T34 l k).f2 - (rd_T34 l k).f1).toNat + (z - (rd_T34 l k).f2).toNat) := by omega
  unfold ownL
  rw [e, toks_add, toks_add, List.filter_append, List.filter_append, show a + (((rd_T34 l k).f1 - a).toNat : Nat) = (rd_T34 l k).f1 by omega, show (rd_T34 l k).f1 + (((rd_T34 l k).f2 - (rd_T34 l k).f1).toNat : Nat) = (rd_T34 l k).f2 by omega]
  congr 1
  · refine List.filter_eq_self.2 fun x hx => ?_
    have := toks_mem.1 hx
    refine noKid_lo l x _ fun q hq => ?_
    rcases List.mem_cons.1 hq with rfl | hq
    · omega
    · have := h3 q hq
      omega
  · rw [List.filter_eq_nil_iff.2 fun x hx => ?_, List.nil_append]
    · refine List.filter_congr fun x hx => ?_
      have := toks_mem.1 hx
      rw [noKid, if_neg (by omega)]
    · have := toks_mem.1 hx
      rw [noKid, if_pos (by omega)]
      simp
theorem upto_own : ∀ (d : Nat) (s : List Int) (a : Int), 0 ≤ a → a + d ≤ 1000 → s.length + d ≤ 1000 → tree_parts.upto tree_Own.tok d s a = some (s ++ toks a d)
  | 0, s, a, _, _, _ => by simp [tree_parts.upto, toks]
  | d + 1, s, a, h0, h1, h2 => by
    rw [tree_parts.upto, if_pos (by omega)]
    unfold tree_Own.tok
    rw [if_pos (by omega), Option.bind_some]
    have := upto_own d (s ++ [a]) (a + 1) (by omega) (by omega) (by rw [List.length_append, List.length_singleton]; omega)
    unfold tree_Own.tok at this
    rw [this, toks, List.append_assoc]
    rfl
theorem run_own (l : List S34) (z : Int) (hz : z ≤ 100) : ∀ (ks : List Int) (a : Int) (s : List Int), (∀ k ∈ ks, 0 ≤ k ∧ k < l.length ∧ (rd_T34 l k).f1 ≤ (rd_T34 l k).f2) → 0 ≤ a → (s.length : Int) ≤ a → chain l a ks z = true →
    tree_parts.run tree_Own.tok tree_Own.kid l ks a z s = some (s ++ ownL l a z ks)
  | [], a, s, _, h0, hs, h => by
    have h1 : a ≤ z := by simpa [chain] using h
    rw [tree_parts.run, upto_own _ _ _ h0 (by omega) (by omega)]
    unfold ownL
    have e : (toks a (z - a).toNat).filter (fun x => noKid l x []) = toks a (z - a).toNat := List.filter_eq_self.2 fun x _ => rfl
    rw [e]
  | k :: ks, a, s, hk, h0, hs, h => by
    have hk1 := hk k (List.mem_cons_self ..)
    have e := ownL_cons l a z k ks (fun q hq => (hk q hq).2.2) h
    have hl := chain_le l z _ a (fun q hq => (hk q hq).2.2) h
    rw [chain] at h
    split at h
    case isFalse => cases h
    rename_i c
    have hl2 := chain_le l z ks _ (fun q hq => (hk q (List.mem_cons_of_mem _ hq)).2.2) h
    rw [tree_parts.run, if_pos hk1.1, if_pos hk1.2.1, upto_own _ _ _ h0 (by omega) (by omega), Option.bind_some]
    show tree_parts.run tree_Own.tok tree_Own.kid l ks (rd_T34 l k).f2 z (s ++ toks a ((rd_T34 l k).f1 - a).toNat) = _
    rw [run_own l z hz ks _ _ (fun q hq => hk q (List.mem_cons_of_mem _ hq)) (by omega) (by rw [List.length_append, toks_len]; omega) h, e, List.append_assoc]
/-! the document's -/
def ownsB (l : List S34) (n : S34) (x : Int) : Bool := if n.f1 ≤ x ∧ x < n.f2 then noKid l x n.f3 else false
/-- What a node owns. -/
def ownOf (l : List S34) (x : S34) : List Int := ownL l x.f1 x.f2 x.f3
theorem Fine.head {l : List S34} {t : Int} (h : Fine l t) (i : Nat) (hi : i < l.length) : headOk l[i] t ∧ chain l l[i].f1 l[i].f3 l[i].f2 = true := by
  have := h.one i hi
  unfold oneOk at this
  rw [rd33_nat l i hi] at this
  split at this
  · rename_i c
    rw [kids_both, Bool.and_eq_true] at this
    exact ⟨c, this.2⟩
  · cases this
theorem own_run (l : List S34) {t : Int} (hf : Fine l t) (ht : t ≤ 100) (i : Nat) (hi : i < l.length) : tree_parts.run tree_Own.tok tree_Own.kid l l[i].f3 l[i].f1 l[i].f2 [] = some (ownOf l l[i]) := by
  obtain ⟨⟨_, _, h1, h2, h3⟩, h4⟩ := hf.head i hi
  refine run_own l l[i].f2 (by omega) l[i].f3 l[i].f1 [] (fun k hk => ?_) h1 h1 h4
  obtain ⟨a, b⟩ := hf.kid i hi k hk
  obtain ⟨n, rfl⟩ := Int.eq_ofNat_of_zero_le a
  have hn : n < l.length := by omega
  refine ⟨a, by omega, ?_⟩
  rw [rd33_nat l n hn]
  exact (hf.head n hn).1.2.2.2.1
/-- What tree.Own comes to. -/
def ownE (l : List S34) (n : Int) : List Int × Option Er := if 0 ≤ n ∧ n < l.length then (ownOf l (rd_T34 l n), none) else ([], some (Er.no 4))
abbrev ownTail (l : List S34) (a1 : Int) (_ : Nat) (t : Option Er) : Option (List Int × Option Er) := if t.isNone = true then (if a1 < 0 then some (([] : List Int), some (Er.no 4)) else if a1 ≥ (l.length : Int) then some (([] : List Int), some (Er.no 4)) else (tree_parts.run tree_Own.tok tree_Own.kid l (rd_T34 l a1).f3 (rd_T34 l a1).f1 (rd_T34 l a1).f2 []).bind fun r => some (r, none)) else some (([] : List Int), some (t.getD (Er.no 0)))
theorem own_bad (l : List S34) (hs : Small l) (n : Int) {b : Option Nat} (h : badRoot l = some b) : Ev (fun k => tree_Own.f k l n) ([], badE (some b)) := by
  unfold tree_Own.f
  refine (sound_ev l hs).bind (f := ownTail l n) ?_
  rw [h]
  refine evCong (Ev.now _) fun k => ?_
  cases b <;> rfl
theorem own_ev (l : List S34) (hs : Small l) (h : badRoot l = none) (ht : (rd_T34 l ((l.length - 1 : Nat) : Int)).f2 ≤ 100) (n : Int) : Ev (fun k => tree_Own.f k l n) (ownE l n) := by
  unfold tree_Own.f
  refine (sound_ev l hs).bind (f := ownTail l n) ?_
  rw [h]
  refine evCong (Ev.now _) fun k => ?_
  unfold ownTail ownE
  rw [if_pos (show (badE none).isNone = true from rfl)]
  by_cases c : 0 ≤ n ∧ n < l.length
  · obtain ⟨i, rfl⟩ := Int.eq_ofNat_of_zero_le c.1
    have hi : i < l.length := by omega
    rw [if_neg (by omega), if_neg (by omega), if_pos c, rd33_nat l i hi, own_run l (fine_of h) ht i hi]
    rfl
  · rw [if_neg c]
    by_cases c1 : n < 0
    · rw [if_pos c1]
    · rw [if_neg c1, if_pos (by omega)]
/-- The root's tokens. -/
def rootTo (l : List S34) : Int := (rd_T34 l ((l.length - 1 : Nat) : Int)).f2
def farB (l : List S34) : Bool := decide (0 < l.length ∧ 100 < rootTo l)
theorem far_f (l : List S34) (hs : Small l) : cavillaw13_far.f l = some (farB l) := by
  have hl := hs.1
  unfold cavillaw13_far.f farB rootTo
  by_cases c : 0 < l.length
  · have w : wrap64 ((l.length : Int) - 1) = ((l.length - 1 : Nat) : Int) := by
      rw [w64_id (by omega) (by omega)]
      omega
    rw [if_pos (by omega), w, if_pos (by omega), if_pos (by omega)]
    congr 1
    exact decide_eq_decide.2 ⟨fun h => ⟨c, h⟩, fun h => h.2⟩
  · rw [if_neg (by omega), decide_eq_false (fun h => c h.1)]
end Go.Proofs.YtnpgadfoohjlnabDoor.Plain
