/- Trees, plain: each token of the root has one owner. No condition beyond what each lemma says. -/
import Derived.Test.YtnpgadfoohjlnabDoorXT5
import Derived.Test.YtnpgadfoohjlnabDoorXT6
import Derived.Test.YtnpgadfoohjlnabDoorQX7
namespace Go.Proofs.YtnpgadfoohjlnabDoor.Plain
open Go.RowKit Go.Proofs.YtnpgadfoohjlnabDoorW.PrintWords Go.Proofs.YtnpgadfoohjlnabDoorW.PrintLast Go.Proofs.YtnpgadfoohjlnabDoorW.PrintMore Go.Proofs.YtnpgadfoohjlnabDoor.QX

/-! in a row of children that stand in order, one at most holds a token -/
def hasT (l : List S34) (i x : Int) : Prop := (rd_T34 l i).f1 ≤ x ∧ x < (rd_T34 l i).f2
theorem chain_disj (l : List S34) (z x : Int) : ∀ (ks : List Int) (a : Int), (∀ k ∈ ks, (rd_T34 l k).f1 ≤ (rd_T34 l k).f2) → chain l a ks z = true → ∀ p ∈ ks, ∀ q ∈ ks, hasT l p x → hasT l q x → p = q
  | [], _, _, _, p, hp, _, _, _, _ => by cases hp
  | k :: ks, a, hk, h, p, hp, q, hq, h1, h2 => by
    rw [chain] at h
    split at h
    case isFalse => cases h
    have hk' := fun y hy => hk y (List.mem_cons_of_mem k hy)
    have hl := (chain_le l z ks _ hk' h).2
    rcases List.mem_cons.1 hp with ep | hp'
    · rcases List.mem_cons.1 hq with eq | hq'
      · rw [ep, eq]
      · have := hl q hq'
        rw [ep] at h1
        unfold hasT at h1 h2
        omega
    · rcases List.mem_cons.1 hq with eq | hq'
      · have := hl p hp'
        rw [eq] at h2
        unfold hasT at h1 h2
        omega
      · exact chain_disj l z x ks _ hk' h p hp' q hq' h1 h2
theorem chain_hi (l : List S34) (z : Int) : ∀ (ks : List Int) (a : Int), (∀ k ∈ ks, (rd_T34 l k).f1 ≤ (rd_T34 l k).f2) → chain l a ks z = true → ∀ k ∈ ks, (rd_T34 l k).f2 ≤ z
  | [], _, _, _, k, hk => by cases hk
  | k :: ks, a, hk, h, p, hp => by
    rw [chain] at h
    split at h
    case isFalse => cases h
    have hk' := fun y hy => hk y (List.mem_cons_of_mem k hy)
    rcases List.mem_cons.1 hp with rfl | hp
    · exact (chain_le l z ks _ hk' h).1
    · exact chain_hi l z ks _ hk' h p hp
theorem noKid_iff (l : List S34) (x : Int) : ∀ ks : List Int, noKid l x ks = true ↔ ∀ k ∈ ks, ¬ hasT l k x
  | [] => by simp [noKid]
  | k :: ks => by
    rw [noKid]
    by_cases c : (rd_T34 l k).f1 ≤ x ∧ x < (rd_T34 l k).f2
    · rw [if_pos c]
      exact ⟨fun h => by simp at h, fun h => absurd c (h k (List.mem_cons_self ..))⟩
    · rw [if_neg c, noKid_iff l x ks]
      exact ⟨fun h p hp => by
        rcases List.mem_cons.1 hp with rfl | hp
        · exact c
        · exact h p hp, fun h p hp => h p (List.mem_cons_of_mem _ hp)⟩
theorem Fine.le {l : List S34} {t : Int} (h : Fine l t) (i : Nat) (hi : i < l.length) : ∀ k ∈ l[i].f3, (rd_T34 l k).f1 ≤ (rd_T34 l k).f2 := fun k hk => by
  obtain ⟨a, b⟩ := h.kid i hi k hk
  obtain ⟨n, rfl⟩ := Int.eq_ofNat_of_zero_le a
  rw [rd33_nat l n (by omega)]
  exact (h.head n (by omega)).1.2.2.2.1
/-- A child's tokens are its parent's. -/
theorem Fine.sub {l : List S34} {t : Int} (h : Fine l t) (i : Nat) (hi : i < l.length) (k : Int) (hk : k ∈ l[i].f3) : l[i].f1 ≤ (rd_T34 l k).f1 ∧ (rd_T34 l k).f2 ≤ l[i].f2 :=
  ⟨(chain_le l _ _ _ (h.le i hi) (h.head i hi).2).2 k hk, chain_hi l _ _ _ (h.le i hi) (h.head i hi).2 k hk⟩
theorem Fine.par {l : List S34} {t : Int} (h : Fine l t) (j : Nat) (hj : j + 1 < l.length) : ∃ p : Nat, j < p ∧ p < l.length ∧ (j : Int) ∈ (rd_T34 l p).f3 ∧ ∀ q : Nat, q < l.length → q ≠ p → (j : Int) ∉ (rd_T34 l q).f3 := by
  have ho := h.occ j hj
  rcases occ_two l j l.length (Nat.le_refl _) with ⟨h1, h2⟩ | ⟨p, h1, h2, h3⟩ | h1
  · rw [List.take_of_length_le (Nat.le_refl _)] at h1
    omega
  · refine ⟨p, ?_, h1, h2, h3⟩
    rw [rd33_nat l p h1] at h2
    have := (h.kid p h1 _ h2).2
    omega
  · rw [List.take_of_length_le (Nat.le_refl _)] at h1
    omega
theorem Fine.up {l : List S34} {t : Int} (h : Fine l t) (j p : Nat) (hp : p < l.length) (hk : (j : Int) ∈ (rd_T34 l p).f3) {x : Int} (hx : hasT l j x) : hasT l p x := by
  rw [rd33_nat l p hp] at hk
  have := h.sub p hp j hk
  unfold hasT at hx ⊢
  rw [rd33_nat l p hp]
  omega
/-- Of two nodes that hold a token the later one has a child that holds it. -/
theorem Fine.two {l : List S34} {t : Int} (h : Fine l t) (x : Int) : ∀ (d j p : Nat), d = l.length - j → j < p → p < l.length → hasT l j x → hasT l p x → ∃ q : Int, q ∈ (rd_T34 l p).f3 ∧ hasT l q x ∧ (j : Int) ≤ q := by
  intro d
  induction d using Nat.strongRecOn with
  | _ d ih =>
    intro j p hd hjp hp hj hx
    obtain ⟨r, hr1, hr2, hr3, _⟩ := h.par j (by omega)
    have hrx := h.up j r hr2 hr3 hj
    by_cases c : r = p
    · subst c
      exact ⟨j, hr3, hj, Int.le_refl _⟩
    · by_cases c2 : r < p
      · obtain ⟨q, q1, q2, q3⟩ := ih (l.length - r) (by omega) r p rfl c2 hp hrx hx
        exact ⟨q, q1, q2, by omega⟩
      · obtain ⟨q, q1, q2, q3⟩ := ih (l.length - p) (by omega) p r rfl (by omega) hr2 hx hrx
        rw [rd33_nat l r hr2] at q1 hr3
        have := chain_disj l _ x _ _ (h.le r hr2) (h.head r hr2).2 q q1 j hr3 q2 hj
        omega
def ownsN (l : List S34) (i : Nat) (x : Int) : Prop := hasT l i x ∧ noKid l x (rd_T34 l i).f3 = true
instance (l : List S34) (i : Nat) (x : Int) : Decidable (ownsN l i x) := by unfold ownsN hasT; infer_instance
theorem Fine.uniq {l : List S34} {t : Int} (h : Fine l t) (x : Int) (i j : Nat) (hi : i < l.length) (hj : j < l.length) (h1 : ownsN l i x) (h2 : ownsN l j x) : i = j := by
  rcases Nat.lt_trichotomy i j with c | c | c
  · obtain ⟨q, q1, q2, _⟩ := h.two x _ i j rfl c hj h1.1 h2.1
    exact absurd q2 ((noKid_iff l x _).1 h2.2 q q1)
  · exact c
  · obtain ⟨q, q1, q2, _⟩ := h.two x _ j i rfl c hi h2.1 h1.1
    exact absurd q2 ((noKid_iff l x _).1 h1.2 q q1)
theorem Fine.has {l : List S34} {t : Int} (h : Fine l t) (x : Int) : ∀ i : Nat, i < l.length → hasT l i x → ∃ j : Nat, j < l.length ∧ ownsN l j x := by
  intro i
  induction i using Nat.strongRecOn with
  | _ i ih =>
    intro hi hx
    by_cases c : noKid l x (rd_T34 l i).f3 = true
    · exact ⟨i, hi, hx, c⟩
    · have : ∃ k, k ∈ (rd_T34 l i).f3 ∧ hasT l k x := by
        apply Classical.byContradiction
        intro hn
        exact c ((noKid_iff l x _).2 fun k hk hx => hn ⟨k, hk, hx⟩)
      obtain ⟨k, hk, hkx⟩ := this
      rw [rd33_nat l i hi] at hk
      obtain ⟨a, b⟩ := h.kid i hi k hk
      obtain ⟨n, rfl⟩ := Int.eq_ofNat_of_zero_le a
      exact ih n (by omega) (by omega) hkx
theorem Fine.root {l : List S34} {t : Int} (h : Fine l t) (x : Int) : ∀ (d j : Nat), d = l.length - j → j < l.length → hasT l j x → hasT l ((l.length - 1 : Nat) : Int) x := by
  intro d
  induction d using Nat.strongRecOn with
  | _ d ih =>
    intro j hd hj hx
    by_cases c : j + 1 = l.length
    · rw [show l.length - 1 = j by omega]
      exact hx
    · obtain ⟨r, hr1, hr2, hr3, _⟩ := h.par j (by omega)
      exact ih (l.length - r) (by omega) r rfl hr2 (h.up j r hr2 hr3 hx)
/-! a node's own tokens as a list -/
theorem toks_nodup : ∀ (d : Nat) (a : Int), (toks a d).Nodup
  | 0, _ => List.nodup_nil
  | d + 1, a => List.nodup_cons.2 ⟨fun h => by have := toks_mem.1 h; omega, toks_nodup d (a + 1)⟩
theorem own_mem (l : List S34) (i : Nat) (hi : i < l.length) (x : Int) : x ∈ ownOf l l[i] ↔ ownsN l i x := by
  unfold ownOf ownL ownsN hasT
  rw [List.mem_filter, toks_mem, rd33_nat l i hi]
  constructor
  · rintro ⟨h1, h2⟩
    exact ⟨by omega, h2⟩
  · rintro ⟨h1, h2⟩
    exact ⟨by omega, h2⟩
theorem own_nodup (l : List S34) (n : S34) : (ownOf l n).Nodup := (toks_nodup _ _).filter _
theorem own_count (l : List S34) (i : Nat) (hi : i < l.length) (x : Int) : (ownOf l l[i]).count x = if ownsN l i x then 1 else 0 := by
  by_cases c : ownsN l i x
  · rw [if_pos c]
    have h1 : 0 < (ownOf l l[i]).count x := List.count_pos_iff.2 ((own_mem l i hi x).2 c)
    have h2 := (List.nodup_iff_count.1 (own_nodup l l[i])) x
    omega
  · rw [if_neg c]
    exact List.count_eq_zero.2 fun h => c ((own_mem l i hi x).1 h)
/-! the walk over a node, any use of its tokens -/
theorem upto_fold {σ : Type} (tok : σ → Int → Option σ) : ∀ (d : Nat) (s : σ) (a : Int), 0 ≤ a → a + d ≤ 1000 → tree_parts.upto tok d s a = (toks a d).foldlM tok s
  | 0, s, a, _, _ => rfl
  | d + 1, s, a, h0, h1 => by
    rw [tree_parts.upto, if_pos (by omega), toks, List.foldlM_cons]
    show (tok s a).bind _ = (tok s a).bind _
    congr 1
    funext s'
    exact upto_fold tok d s' (a + 1) (by omega) (by omega)
theorem run_fold {σ : Type} (tok : σ → Int → Option σ) (l : List S34) (z : Int) (hz : z ≤ 100) : ∀ (ks : List Int) (a : Int) (s : σ), (∀ k ∈ ks, 0 ≤ k ∧ k < l.length ∧ (rd_T34 l k).f1 ≤ (rd_T34 l k).f2) → 0 ≤ a → chain l a ks z = true →
    tree_parts.run tok (fun s _ => some s) l ks a z s = (ownL l a z ks).foldlM tok s
  | [], a, s, _, h0, h => by
    have h1 : a ≤ z := by simpa [chain] using h
    have e : ownL l a z [] = toks a (z - a).toNat := List.filter_eq_self.2 fun x _ => rfl
    rw [tree_parts.run, upto_fold _ _ _ _ h0 (by omega), e]
  | k :: ks, a, s, hk, h0, h => by
    have hk1 := hk k (List.mem_cons_self ..)
    have e := ownL_cons l a z k ks (fun q hq => (hk q hq).2.2) h
    have hl := chain_le l z _ a (fun q hq => (hk q hq).2.2) h
    rw [chain] at h
    split at h
    case isFalse => cases h
    rename_i c
    have hl2 := chain_le l z ks _ (fun q hq => (hk q (List.mem_cons_of_mem _ hq)).2.2) h
    rw [tree_parts.run, if_pos hk1.1, if_pos hk1.2.1, upto_fold _ _ _ _ h0 (by omega), e, List.foldlM_append]
    show ((toks a ((rd_T34 l k).f1 - a).toNat).foldlM tok s).bind _ = ((toks a ((rd_T34 l k).f1 - a).toNat).foldlM tok s).bind _
    congr 1
    funext s'
    exact run_fold tok l z hz ks _ s' (fun q hq => hk q (List.mem_cons_of_mem _ hq)) (by omega) h
theorem fine_run {σ : Type} (tok : σ → Int → Option σ) (l : List S34) {t : Int} (hf : Fine l t) (ht : t ≤ 100) (i : Nat) (hi : i < l.length) (s : σ) : tree_parts.run tok (fun s _ => some s) l l[i].f3 l[i].f1 l[i].f2 s = (ownOf l l[i]).foldlM tok s := by
  obtain ⟨⟨_, _, h1, h2, h3⟩, h4⟩ := hf.head i hi
  refine run_fold tok l l[i].f2 (by omega) l[i].f3 l[i].f1 s (fun k hk => ?_) h1 h4
  obtain ⟨a, b⟩ := hf.kid i hi k hk
  exact ⟨a, by omega, hf.le i hi k hk⟩
/-! Owners -/
theorem set_all (m : Nat) (q : Int) : ∀ (ts : List Int) (c : Nat → Int), (∀ x ∈ ts, 0 ≤ x ∧ x < m) → ts.foldlM (tree_Owners.tok q) (iarr m c) = some (iarr m fun j => if (j : Int) ∈ ts then q else c j)
  | [], c, _ => by
    simp only [List.foldlM_nil, List.not_mem_nil, if_false]
    rfl
  | x :: ts, c, h => by
    obtain ⟨h0, h1⟩ := h x (List.mem_cons_self ..)
    obtain ⟨n, rfl⟩ := Int.eq_ofNat_of_zero_le h0
    have e : tree_Owners.tok q (iarr m c) (n : Int) = some (iarr m fun j => if j = n then q else c j) := by
      unfold tree_Owners.tok
      rw [if_pos (by rw [iarr_len]; omega), Int.toNat_natCast, iarr_set]
    rw [List.foldlM_cons, e]
    show List.foldlM (tree_Owners.tok q) (iarr m fun j => if j = n then q else c j) ts = _
    rw [set_all m q ts _ fun y hy => h y (List.mem_cons_of_mem _ hy)]
    congr 2
    funext j
    by_cases c1 : (j : Int) ∈ ts
    · rw [if_pos c1, if_pos (List.mem_cons_of_mem _ c1)]
    · rw [if_neg c1]
      by_cases c2 : j = n
      · rw [if_pos c2, c2, if_pos (List.mem_cons_self ..)]
      · rw [if_neg c2, if_neg (fun h => by
          rcases List.mem_cons.1 h with h | h
          · omega
          · exact c1 h)]
/-- The last of the first nodes that owns a token. -/
def ow (l : List S34) : Nat → Nat → Int
  | 0, _ => -1
  | i + 1, j => if ownsN l i j then (i : Int) else ow l i j
theorem own_in (l : List S34) {t : Int} (hf : Fine l t) (i : Nat) (hi : i < l.length) : ∀ x ∈ ownOf l l[i], 0 ≤ x ∧ x < (rd_T34 l ((l.length - 1 : Nat) : Int)).f2 := fun x hx => by
  have ho := (own_mem l i hi x).1 hx
  have hr := hf.root x _ i rfl hi ho.1
  have h0 := (hf.head i hi).1.2.2.1
  have h1 := ho.1
  unfold hasT at h1 hr
  rw [rd33_nat l i hi] at h1
  omega
theorem owners_go (l : List S34) {t : Int} (hf : Fine l t) (ht : t ≤ 100) (m : Nat) (hm : (rd_T34 l ((l.length - 1 : Nat) : Int)).f2 = (m : Int)) : ∀ (d i : Nat), i + d = l.length → tree_Owners.go l d i (iarr m (ow l i)) = some (iarr m (ow l l.length))
  | 0, i, h => by
    rw [show i = l.length by omega]
    rfl
  | d + 1, i, h => by
    have hi : i < l.length := by omega
    rw [tree_Owners.go, rd33_nat l i hi]
    have e : tree_parts.run (tree_Owners.tok (i : Int)) tree_Owners.kid l l[i].f3 l[i].f1 l[i].f2 (iarr m (ow l i)) = (ownOf l l[i]).foldlM (tree_Owners.tok (i : Int)) (iarr m (ow l i)) := fine_run _ l hf ht i hi _
    rw [e, set_all m (i : Int) _ _ fun x hx => by have := own_in l hf i hi x hx; omega]
    show tree_Owners.go l d (i + 1) (iarr m fun j => if (j : Int) ∈ ownOf l l[i] then (i : Int) else ow l i j) = _
    have e2 : (fun j : Nat => if (j : Int) ∈ ownOf l l[i] then (i : Int) else ow l i j) = ow l (i + 1) := by
      funext j
      rw [ow]
      by_cases c : ownsN l i (j : Int)
      · rw [if_pos c, if_pos ((own_mem l i hi _).2 c)]
      · rw [if_neg c, if_neg (fun h => c ((own_mem l i hi _).1 h))]
    rw [e2]
    exact owners_go l hf ht m hm d (i + 1) (by omega)
abbrev ownersTail (l : List S34) (_ : Nat) (t : Option Er) : Option (List Int × Option Er) := if t.isNone = true then (if 0 < l.length ∧ l.length ≤ 17592186044416 ∧ 0 ≤ (rd_T34 l ((l.length - 1 : Nat) : Int)).f2 ∧ (rd_T34 l ((l.length - 1 : Nat) : Int)).f2 ≤ 17592186044416 then (tree_Owners.go l l.length 0 (List.replicate (rd_T34 l ((l.length - 1 : Nat) : Int)).f2.toNat (-1))).bind fun r => some (r, none) else none) else some (([] : List Int), some (t.getD (Er.no 0)))
theorem owners_bad (l : List S34) (hs : Small l) {b : Option Nat} (h : badRoot l = some b) : Ev (fun k => tree_Owners.f k l) ([], badE (some b)) := by
  unfold tree_Owners.f
  refine (sound_ev l hs).bind (f := ownersTail l) ?_
  rw [h]
  refine evCong (Ev.now _) fun k => ?_
  cases b <;> rfl
theorem iarr_const (n : Nat) (v : Int) : List.replicate n v = iarr n (fun _ => v) := by
  apply List.ext_getElem
  · simp [iarr]
  · intro i h1 h2
    simp [iarr]
theorem owners_ev (l : List S34) (hs : Small l) (h : badRoot l = none) (m : Nat) (hm : (rd_T34 l ((l.length - 1 : Nat) : Int)).f2 = (m : Int)) (ht : m ≤ 100) : Ev (fun k => tree_Owners.f k l) (iarr m (ow l l.length), none) := by
  have hl := hs.1
  have hf := fine_of h
  have hp := hf.ne
  unfold tree_Owners.f
  refine (sound_ev l hs).bind (f := ownersTail l) ?_
  rw [h]
  refine evCong (Ev.now _) fun k => ?_
  unfold ownersTail
  rw [if_pos (show (badE none).isNone = true from rfl), if_pos (by omega), hm, Int.toNat_natCast, iarr_const]
  have e : (fun _ : Nat => (-1 : Int)) = ow l 0 := rfl
  rw [e, owners_go l hf (by omega) m hm l.length 0 (by omega)]
  rfl
theorem ow_none (l : List S34) (j : Nat) : ∀ i, (∀ q : Nat, q < i → ¬ ownsN l q j) → ow l i j = -1
  | 0, _ => rfl
  | i + 1, h => by
    rw [ow, if_neg (h i (by omega))]
    exact ow_none l j i fun q hq => h q (by omega)
theorem ow_at (l : List S34) {t : Int} (hf : Fine l t) (j p : Nat) (hp : ownsN l p j) : ∀ i, p < i → i ≤ l.length → ow l i j = (p : Int)
  | 0, h, _ => by omega
  | i + 1, h, hi => by
    rw [ow]
    by_cases c : ownsN l i (j : Int)
    · rw [if_pos c, hf.uniq _ i p (by omega) (by omega) c hp]
    · rw [if_neg c]
      have : i ≠ p := fun e => c (by rw [e]; exact hp)
      exact ow_at l hf j p hp i (by omega) (by omega)
/-- How often a token is owned. -/
def tot (l : List S34) : Nat → Nat → Nat
  | 0, _ => 0
  | i + 1, j => tot l i j + if ownsN l i j then 1 else 0
theorem tot_le (l : List S34) : ∀ i j, tot l i j ≤ i
  | 0, _ => Nat.le_refl _
  | i + 1, j => by
    rw [tot]
    have := tot_le l i j
    split <;> omega
theorem tot_none (l : List S34) (j : Nat) : ∀ i, (∀ q : Nat, q < i → ¬ ownsN l q j) → tot l i j = 0
  | 0, _ => rfl
  | i + 1, h => by
    rw [tot, if_neg (h i (by omega)), tot_none l j i fun q hq => h q (by omega)]
theorem tot_at (l : List S34) {t : Int} (hf : Fine l t) (j p : Nat) (hp : ownsN l p j) : ∀ i, p < i → i ≤ l.length → tot l i j = 1
  | 0, h, _ => by omega
  | i + 1, h, hi => by
    rw [tot]
    by_cases c : ownsN l i (j : Int)
    · have e := hf.uniq _ i p (by omega) (by omega) c hp
      rw [if_pos c, tot_none l j i fun q hq hn => by have := hf.uniq _ q p (by omega) (by omega) hn hp; omega]
    · rw [if_neg c]
      have : i ≠ p := fun e => c (by rw [e]; exact hp)
      rw [tot_at l hf j p hp i (by omega) (by omega)]
end Go.Proofs.YtnpgadfoohjlnabDoor.Plain
