/- Trees, plain: a node's own tokens. No condition beyond what each lemma says. -/
import Derived.Test.YtnpgadfoohjlnaaZT4
namespace Go.Proofs.Ytnpgadfoohjlnaa.Plain
open Go.RowKit Go.Proofs.YtnpgadfoohjlnaaW.PrintWords Go.Proofs.YtnpgadfoohjlnaaW.PrintLast Go.Proofs.YtnpgadfoohjlnaaW.PrintMore Go.Proofs.Ytnpgadfoohjlnaa.QV

/-- So many numbers from one on. -/
def toks (a : Int) : Nat → List Int
  | 0 => []
  | d + 1 => a :: toks (a + 1) d
theorem toks_len (a : Int) (d : Nat) : (toks a d).length = d := by
  induction d generalizing a with
  | zero => rfl
  | succ d ih => simp [toks, ih]
theorem toks_mem {x : Int} : ∀ {d : Nat} {a : Int}, x ∈ toks a d ↔ a ≤ x ∧ x < a + d
  | 0, a => by simp only [toks, List.not_mem_nil, false_iff]; omega
  | d + 1, a => by
    rw [toks, List.mem_cons, toks_mem]
    omega
theorem toks_add (a : Int) (b c : Nat) : toks a (b + c) = toks a b ++ toks (a + b) c := by
  induction b generalizing a with
  | zero => simp [toks]
  | succ b ih =>
    rw [show b + 1 + c = (b + c) + 1 by omega, toks, toks, ih, List.cons_append]
    congr 3
    omega
/-- In none of the children. -/
def noKid (l : List S44) (x : Int) : List Int → Bool
  | [] => true
  | k :: ks => if (rd_T44 l k).f1 ≤ x ∧ x < (rd_T44 l k).f2 then false else noKid l x ks
theorem noKid_lo (l : List S44) (x : Int) : ∀ ks : List Int, (∀ k ∈ ks, x < (rd_T44 l k).f1) → noKid l x ks = true
  | [], _ => rfl
  | k :: ks, h => by
    have := h k (List.mem_cons_self ..)
    rw [noKid, if_neg (by omega)]
    exact noKid_lo l x ks fun q hq => h q (List.mem_cons_of_mem _ hq)
theorem chain_le (l : List S44) (z : Int) : ∀ (ks : List Int) (a : Int), (∀ k ∈ ks, (rd_T44 l k).f1 ≤ (rd_T44 l k).f2) → chain l a ks z = true → a ≤ z ∧ ∀ k ∈ ks, a ≤ (rd_T44 l k).f1
  | [], a, _, h => ⟨by simpa [chain] using h, fun k hk => by cases hk⟩
  | k :: ks, a, hk, h => by
    rw [chain] at h
    split at h
    · rename_i c
      have h1 := hk k (List.mem_cons_self ..)
      have ⟨h2, h3⟩ := chain_le l z ks _ (fun q hq => hk q (List.mem_cons_of_mem _ hq)) h
      refine ⟨by omega, fun q hq => ?_⟩
      rcases List.mem_cons.1 hq with rfl | hq
      · exact c
      · have := h3 q hq
        omega
    · cases h
/-- All of a node's numbers that none of its children hold. -/
def ownL (l : List S44) (a z : Int) (ks : List Int) : List Int := (toks a (z - a).toNat).filter fun x => noKid l x ks
theorem ownL_cons (l : List S44) (a z k : Int) (ks : List Int) (hk : ∀ q ∈ k :: ks, (rd_T44 l q).f1 ≤ (rd_T44 l q).f2) (h : chain l a (k :: ks) z = true) :
    ownL l a z (k :: ks) = toks a ((rd_T44 l k).f1 - a).toNat ++ ownL l (rd_T44 l k).f2 z ks := by
  rw [chain] at h
  split at h
  case isFalse => cases h
  rename_i c
  have h1 := hk k (List.mem_cons_self ..)
  have ⟨h2, h3⟩ := chain_le l z ks _ (fun q hq => hk q (List.mem_cons_of_mem _ hq)) h
  have e : (z - a).toNat = ((rd_T44 l k).f1 - a).toNat + (((rd_T44 l k).f2 - (rd_T44 l k).f1).toNat + (z - (rd_T44 l k).f2).toNat) := by omega
  unfold ownL
  rw [e, toks_add, toks_add, List.filter_append, List.filter_append, show a + (((rd_T44 l k).f1 - a).toNat : Nat) = (rd_T44 l k).f1 by omega, show (rd_T44 l k).f1 + (((rd_T44 l k).f2 - (rd_T44 l k).f1).toNat : Nat) = (rd_T44 l k).f2 by omega]
  congr 1
  · refine List.filter_eq_self.2 fun x hx => ?_
    have := toks_mem.1 hx
    refine noKid_lo l x _ fun q hq => ?_
    rcases List.mem_cons.1 hq with rfl | hq
    · omega
    · have := h3 q hq
      omega
  · rw [List.filter_eq_nil_iff.2 fun x hx => ?_, List.nil_append]
    · refine List.filter_congr fun x hx => ?_
      have := toks_mem.1 hx
      rw [noKid, if_neg (by omega)]
    · have := toks_mem.1 hx
      rw [noKid, if_pos (by omega)]
      simp
/-! the document's -/
def ownsB (l : List S44) (n : S44) (x : Int) : Bool := if n.f1 ≤ x ∧ x < n.f2 then noKid l x n.f3 else false
/-- What a node owns. -/
def ownOf (l : List S44) (x : S44) : List Int := ownL l x.f1 x.f2 x.f3
theorem Fine.head {l : List S44} {t : Int} (h : Fine l t) (i : Nat) (hi : i < l.length) : headOk l[i] t ∧ chain l l[i].f1 l[i].f3 l[i].f2 = true := by
  have := h.one i hi
  unfold oneOk at this
  rw [rd33_nat l i hi] at this
  split at this
  · rename_i c
    rw [kids_both, Bool.and_eq_true] at this
    exact ⟨c, this.2⟩
  · cases this
/-- What tree.Own comes to. -/
def ownE (l : List S44) (n : Int) : List Int × Option Er := if 0 ≤ n ∧ n < l.length then (ownOf l (rd_T44 l n), none) else ([], some (Er.no 4))
/-- The root's tokens. -/
def rootTo (l : List S44) : Int := (rd_T44 l ((l.length - 1 : Nat) : Int)).f2
def farB (l : List S44) : Bool := decide (0 < l.length ∧ 100 < rootTo l)
end Go.Proofs.Ytnpgadfoohjlnaa.Plain
