/- Trees, plain: a node's own tokens. No condition beyond what each lemma says. -/
import Derived.Test.YtnpgadfoohjlnaaDoorVT4
import Derived.Test.YtnpgadfoohjlnaaDoorQV13
import Derived.Test.YtnpgadfoohjlnaaDoorQV14
namespace Go.Proofs.YtnpgadfoohjlnaaDoor.Plain
open Go.RowKit Go.Proofs.YtnpgadfoohjlnaaDoorW.PrintWords Go.Proofs.YtnpgadfoohjlnaaDoorW.PrintLast Go.Proofs.YtnpgadfoohjlnaaDoorW.PrintMore Go.Proofs.YtnpgadfoohjlnaaDoor.QV

/-- So many numbers from one on. -/
def toks (a : Int) : Nat → List Int
  | 0 => []
  | d + 1 => a :: toks (a + 1) d
theorem toks_len (a : Int) (d : Nat) : (toks a d).length = d := by
  induction d generalizing a with
  | zero => rfl
  | succ d ih => simp [toks, ih]
theorem toks_mem {x : Int} : ∀ {d : Nat} {a : Int}, x ∈ toks a d ↔ a ≤ x ∧ x < a + d
  | 0, a => by simp only [toks, List.not_mem_nil, false_iff]; omega
  | d + 1, a => by
    rw [toks, List.mem_cons, toks_mem]
    omega
theorem toks_add (a : Int) (b c : Nat) : toks a (b + c) = toks a b ++ toks (a + b) c := by
  induction b generalizing a with
  | zero => simp [toks]
  | succ b ih =>
    rw [show b + 1 + c = (b + c) + 1 by omega, toks, toks, ih, List.cons_append]
    congr 3
    omega
/-- In none of the children. -/
def noKid (l : List S33) (x : Int) : List Int → Bool
  | [] => true
  | k :: ks => if (rd_T33 l k).f1 ≤ x ∧ x < (rd_T33 l k).f2 then false else noKid l x ks
theorem noKid_lo (l : List S33) (x : Int) : ∀ ks : List Int, (∀ k ∈ ks, x < (rd_T33 l k).f1) → noKid l x ks = true
  | [], _ => rfl
  | k :: ks, h => by
    have := h k (List.mem_cons_self ..)
    rw [noKid, if_neg (by omega)]
    exact noKid_lo l x ks fun q hq => h q (List.mem_cons_of_mem _ hq)
theorem chain_le (l : List S33) (z : Int) : ∀ (ks : List Int) (a : Int), (∀ k ∈ ks, (rd_T33 l k).f1 ≤ (rd_T33 l k).f2) → chain l a ks z = true → a ≤ z ∧ ∀ k ∈ ks, a ≤ (rd_T33 l k).f1
  | [], a, _, h => ⟨by simpa [chain] using h, fun k hk => by cases hk⟩
  | k :: ks, a, hk, h => by
    rw [chain] at h
    split at h
    · rename_i c
      have h1 := hk k (List.mem_cons_self ..)
      have ⟨h2, h3⟩ := chain_le l z ks _ (fun q hq => hk q (List.mem_cons_of_mem _ hq)) h
      refine ⟨by omega, fun q hq => ?_⟩
      rcases List.mem_cons.1 hq with rfl | hq
      · exact c
      · have := h3 q hq
        omega
    · cases h
/-- All of a node's numbers that none of its children hold. -/
def ownL (l : List S33) (a z : Int) (ks : List Int) : List Int := (toks a (z - a).toNat).filter fun x => noKid l x ks
theorem ownL_cons (l : List S33) (a z k : Int) (ks : List Int) (hk : ∀ q ∈ k :: ks, (rd_T33 l q).f1 ≤ (rd_T33 l q).f2) (h : chain l a (k :: ks) z = true) :
    ownL l a z (k :: ks) = toks a ((rd_T33 l k).f1 - a).toNat ++ ownL l (rd_T33 l k).f2 z ks := by
  rw [chain] at h
  split at h
  case isFalse => cases h
  rename_i c
  have h1 := hk k (List.mem_cons_self ..)
  have ⟨h2, h3⟩ := chain_le l z ks _ (fun q hq => hk q (List.mem_cons_of_mem _ hq)) h
  have e : (z - a).toNat = ((rd_T33 l k).f1 - a).toNat + (((rd_T33 l k).f2 - (rd_T33 l k).f1).toNat + (z - (rd_T33 l k).f2).toNat) := by omega
  unfold ownL
  rw [e, toks_add, toks_add, List.filter_append, List.filter_append, show a + (((rd_T33 l k).f1 - a).toNat : Nat) = (rd_T33 l k).f1 by omega, show (rd_T33 l k).f1 + (((rd_T33 l k).f2 - (rd_T33 l k).f1).toNat : Nat) = (rd_T33 l k).f2 by omega]
  congr 1
  · refine List.filter_eq_self.2 fun x hx => ?_
    have := toks_mem.1 hx
    refine noKid_lo l x _ fun q hq => ?_
    rcases List.mem_cons.1 hq with rfl | hq
    · omega
    · have := h3 q hq
      omega
  · rw [List.filter_eq_nil_iff.2 fun x hx => ?_, List.nil_append]
    · refine List.filter_congr fun x hx => ?_
      have := toks_mem.1 hx
      rw [noKid, if_neg (by omega)]
    · have := toks_mem.1 hx
      rw [noKid, if_pos (by omega)]
      simp
/-! the document's -/
theorem owns_loop (l : List S33) (x : Int) (ks : List Int) (hk : ks.length ≤ 20) (f0 f1 f2 : Int) (hin : ∀ k ∈ ks, 0 ≤ k ∧ k < l.length) : ∀ (d i : Nat), i + d = ks.length →
    Ev (fun k => cavilref13_Owns.l0 k x (i : Int) l f0 f1 f2 ks) (noKid l x (ks.drop i))
  | 0, i, h => by
    refine evConst fun k => ?_
    simp only [cavilref13_Owns.l0]
    rw [if_neg (by omega), List.drop_of_length_le (by omega)]
    rfl
  | d + 1, i, h => by
    have hi : i < ks.length := by omega
    have e := rd_nat ks i hi
    have hm := hin _ (List.getElem_mem hi)
    rw [List.drop_eq_getElem_cons hi, noKid]
    by_cases c : (rd_T33 l ks[i]).f1 ≤ x ∧ x < (rd_T33 l ks[i]).f2
    · rw [if_pos c]
      refine evConst fun k => ?_
      simp only [cavilref13_Owns.l0]
      rw [if_pos (by omega), if_pos (by omega), e, if_pos hm.1, if_pos hm.2, if_pos (by omega), if_pos (by omega)]
    · rw [if_neg c]
      refine evNext (owns_loop l x ks hk f0 f1 f2 hin d (i + 1) (by omega)) fun k => ?_
      simp only [cavilref13_Owns.l0]
      rw [if_pos (by omega), if_pos (by omega), e, if_pos hm.1, if_pos hm.2, w64_succ (n := 100) (by omega) (by omega)]
      by_cases c1 : x ≥ (rd_T33 l ks[i]).f1
      · rw [if_pos c1, if_neg (by omega)]
      · rw [if_neg c1]
def ownsB (l : List S33) (n : S33) (x : Int) : Bool := if n.f1 ≤ x ∧ x < n.f2 then noKid l x n.f3 else false
theorem owns_ev (l : List S33) (hs : Small l) {t : Int} (hf : Fine l t) (i : Nat) (hi : i < l.length) (x : Int) : Ev (fun k => cavilref13_Owns.f k l i x) (ownsB l l[i] x) := by
  have bad : Ev (fun k => cavilref13_Owns.j0 k x true l l[i].f0 l[i].f1 l[i].f2 l[i].f3) false := evConst fun k => by
    simp only [cavilref13_Owns.j0]
    rw [if_pos trivial]
  have good : Ev (fun k => cavilref13_Owns.j0 k x false l l[i].f0 l[i].f1 l[i].f2 l[i].f3) (noKid l x l[i].f3) :=
    evNext (owns_loop l x l[i].f3 (hs.2 _ (List.getElem_mem hi)) l[i].f0 l[i].f1 l[i].f2 (fun k hk => by have := hf.kid i hi k hk; omega) l[i].f3.length 0 (by omega)) fun k => by
      simp only [cavilref13_Owns.j0]
      rw [if_neg (by simp)]
      rfl
  unfold ownsB
  by_cases c : l[i].f1 ≤ x ∧ x < l[i].f2
  · rw [if_pos c]
    refine evCong good fun k => ?_
    unfold cavilref13_Owns.f
    rw [if_pos (by omega), if_pos (by omega), rd33_nat l i hi, if_neg (by omega), decide_eq_false (by omega)]
  · rw [if_neg c]
    refine evCong bad fun k => ?_
    unfold cavilref13_Owns.f
    rw [if_pos (by omega), if_pos (by omega), rd33_nat l i hi]
    by_cases c1 : x < l[i].f1
    · rw [if_pos c1]
    · rw [if_neg c1, decide_eq_true (by omega)]
theorem rown_loop (l : List S33) (hs : Small l) {t : Int} (hf : Fine l t) (i : Nat) (hi : i < l.length) (hz : l[i].f2 ≤ 100) : ∀ (d : Nat) (a : Int) (s : List Int), a + d = l[i].f2 → l[i].f1 ≤ a → 0 ≤ a → s.length + d ≤ 1000 →
    Ev (fun k => cavilref13_Own.l0 k i s a l) (s ++ (toks a d).filter fun x => noKid l x l[i].f3)
  | 0, a, s, h, _, _, _ => by
    refine evConst fun k => ?_
    simp only [cavilref13_Own.l0]
    rw [if_pos (by omega), if_pos (by omega), rd33_nat l i hi, if_neg (by omega)]
    simp [toks]
  | d + 1, a, s, h, h1, h0, h2 => by
    have hb : ownsB l l[i] a = noKid l a l[i].f3 := by
      unfold ownsB
      rw [if_pos (by omega)]
    refine evNext ((owns_ev l hs hf i hi a).bind (f := fun k t249 => (if t249 = true then (if s.length < 17592186044416 then (cavilref13_Own.l0 k i (s ++ [a]) (wrap64 (a + 1)) l) else (none)) else (cavilref13_Own.l0 k i s (wrap64 (a + 1)) l))) ?_) fun k => ?_
    · rw [hb, toks]
      by_cases c : noKid l a l[i].f3 = true
      · rw [List.filter_cons_of_pos (p := fun x => noKid l x l[i].f3) c]
        refine evCong (g := _) (f := fun k => cavilref13_Own.l0 k i (s ++ [a]) (a + 1) l) ?_ fun k => ?_
        · have := rown_loop l hs hf i hi hz d (a + 1) (s ++ [a]) (by omega) (by omega) (by omega) (by rw [List.length_append, List.length_singleton]; omega)
          rw [List.append_assoc] at this
          exact this
        · rw [if_pos c, if_pos (by omega), w64_id (by omega) (by omega)]
      · rw [List.filter_cons_of_neg (p := fun x => noKid l x l[i].f3) c]
        refine evCong (rown_loop l hs hf i hi hz d (a + 1) s (by omega) (by omega) (by omega) (by omega)) fun k => ?_
        rw [if_neg c, w64_id (by omega) (by omega)]
    · simp only [cavilref13_Own.l0]
      rw [if_pos (by omega), if_pos (by omega), rd33_nat l i hi, if_pos (by omega)]
/-- What a node owns. -/
def ownOf (l : List S33) (x : S33) : List Int := ownL l x.f1 x.f2 x.f3
theorem Fine.head {l : List S33} {t : Int} (h : Fine l t) (i : Nat) (hi : i < l.length) : headOk l[i] t ∧ chain l l[i].f1 l[i].f3 l[i].f2 = true := by
  have := h.one i hi
  unfold oneOk at this
  rw [rd33_nat l i hi] at this
  split at this
  · rename_i c
    rw [kids_both, Bool.and_eq_true] at this
    exact ⟨c, this.2⟩
  · cases this
theorem rown_ev (l : List S33) (hs : Small l) {t : Int} (hf : Fine l t) (ht : t ≤ 100) (i : Nat) (hi : i < l.length) : Ev (fun k => cavilref13_Own.f k l i) (ownOf l l[i]) := by
  obtain ⟨⟨_, _, h1, h2, h3⟩, _⟩ := hf.head i hi
  refine evCong (rown_loop l hs hf i hi (by omega) (l[i].f2 - l[i].f1).toNat l[i].f1 [] (by omega) (by omega) h1 (by rw [List.length_nil]; omega)) fun k => ?_
  unfold cavilref13_Own.f
  rw [if_pos (by omega), if_pos (by omega), rd33_nat l i hi]
/-- What tree.Own comes to. -/
def ownE (l : List S33) (n : Int) : List Int × Option Er := if 0 ≤ n ∧ n < l.length then (ownOf l (rd_T33 l n), none) else ([], some (Er.no 4))
/-- The root's tokens. -/
def rootTo (l : List S33) : Int := (rd_T33 l ((l.length - 1 : Nat) : Int)).f2
def farB (l : List S33) : Bool := decide (0 < l.length ∧ 100 < rootTo l)
end Go.Proofs.YtnpgadfoohjlnaaDoor.Plain
