/- ViewWithin, plain: a node's place lies within its parent's; the answer is true, whether there is a file or not. No condition beyond what each lemma says. -/
import Derived.Test.YtnpgadfoohjlnaaZN3
import Derived.Test.YtnpgadfoohjlnaaQV10
import Derived.Test.YtnpgadfoohjlnaaQV9
import Derived.Test.YtnpgadfoohjlnaaQV11
namespace Go.Proofs.Ytnpgadfoohjlnaa.Plain
open Go.RowKit Go.Proofs.YtnpgadfoohjlnaaW.PrintWords Go.Proofs.YtnpgadfoohjlnaaW.PrintLast Go.Proofs.YtnpgadfoohjlnaaW.PrintMore Go.Proofs.Ytnpgadfoohjlnaa.QV

theorem kid_f (b : List Int) (ts : List S38) (l : List S44) (n i : Int) : view_File_Kid.f (fileOf b ts l) n i = some (if 0 ≤ i ∧ i < ((nodeN l n).2.2.2.length : Int) then rd (nodeN l n).2.2.2 i else -1) := by
  unfold view_File_Kid.f
  rw [if_pos (one_pos b ts l), node_f, Option.bind_some]
  by_cases c : i < 0
  · rw [if_pos c, if_neg (by omega)]
  · rw [if_neg c]
    by_cases c1 : i ≥ ((nodeN l n).2.2.2.length : Int)
    · rw [if_pos c1, if_neg (by omega)]
    · rw [if_neg c1, if_pos (by omega), if_pos (by omega), if_pos (by omega)]
abbrev tk15 (ts : List S38) (i : Int) : S38 := rd_T38 ts i
/-- The tokens stand in order, each from its begin to its end. -/
def Ordered (ts : List S38) : Prop := ∀ i : Nat, i < ts.length → (tk15 ts i).f1 ≤ (tk15 ts i).f2 ∧ (0 < i → (tk15 ts ((i : Int) - 1)).f2 ≤ (tk15 ts i).f1)
theorem Ordered.le {ts : List S38} (h : Ordered ts) : ∀ (d i : Nat), i + d < ts.length → (tk15 ts i).f1 ≤ (tk15 ts ((i + d : Nat) : Int)).f1 ∧ (tk15 ts i).f2 ≤ (tk15 ts ((i + d : Nat) : Int)).f2
  | 0, i, _ => ⟨Int.le_refl _, Int.le_refl _⟩
  | d + 1, i, hd => by
    have h1 := h.le d i (by omega)
    have h2 := h (i + d) (by omega)
    have h3 := h (i + (d + 1)) (by omega)
    have e : ((i + (d + 1) : Nat) : Int) - 1 = ((i + d : Nat) : Int) := by omega
    rw [e] at h3
    have := h3.2 (by omega)
    omega
theorem Ordered.two {ts : List S38} (h : Ordered ts) {a z : Int} (h0 : 0 ≤ a) (h1 : a ≤ z) (h2 : z < ts.length) : (tk15 ts a).f1 ≤ (tk15 ts z).f1 ∧ (tk15 ts a).f2 ≤ (tk15 ts z).f2 ∧ (tk15 ts a).f1 ≤ (tk15 ts z).f2 := by
  obtain ⟨i, rfl⟩ := Int.eq_ofNat_of_zero_le h0
  obtain ⟨j, rfl⟩ := Int.eq_ofNat_of_zero_le (Int.le_trans h0 h1)
  have h3 := h.le (j - i) i (by omega)
  rw [show i + (j - i) = j by omega] at h3
  have h4 := h j (by omega)
  omega
theorem Ordered.step {ts : List S38} (h : Ordered ts) {a z : Int} (h0 : 0 ≤ a) (h1 : a < z) (h2 : z < ts.length) : (tk15 ts a).f2 ≤ (tk15 ts z).f1 := by
  obtain ⟨i, rfl⟩ := Int.eq_ofNat_of_zero_le h0
  obtain ⟨j, rfl⟩ := Int.eq_ofNat_of_zero_le (by omega : 0 ≤ z)
  have h3 := h.le (j - i - 1) (i) (by omega)
  rw [show i + (j - i - 1) = j - 1 by omega] at h3
  have h4 := (h j (by omega)).2 (by omega)
  rw [show (j : Int) - 1 = ((j - 1 : Nat) : Int) by omega] at h4
  omega
/-- A child's place within its parent's. -/
theorem span_within {ts : List S38} {l : List S44} (hf : Fine l ts.length) (ho : Ordered ts) {n k : Int} (hn : inN l n) (hk : inN l k) (h1 : (rd_T44 l n).f1 ≤ (rd_T44 l k).f1) (h2 : (rd_T44 l k).f2 ≤ (rd_T44 l n).f2) :
    (spanN ts l n).1 ≤ (spanN ts l k).1 ∧ (spanN ts l k).1 ≤ (spanN ts l k).2 ∧ ((rd_T44 l k).f1 < (rd_T44 l k).f2 → (spanN ts l k).2 ≤ (spanN ts l n).2) := by
  have a := hf.rdh hn
  have c := hf.rdh hk
  unfold spanN
  rw [if_pos hn, if_pos hk]
  by_cases kk : (rd_T44 l k).f1 < (rd_T44 l k).f2
  · have o1 := ho.two (a := (rd_T44 l n).f1) (z := (rd_T44 l k).f1) (by omega) (by omega) (by omega)
    have o2 := ho.two (a := (rd_T44 l k).f1) (z := (rd_T44 l k).f2 - 1) (by omega) (by omega) (by omega)
    have o3 := ho.two (a := (rd_T44 l k).f2 - 1) (z := (rd_T44 l n).f2 - 1) (by omega) (by omega) (by omega)
    rw [if_pos kk, if_pos (show (rd_T44 l n).f1 < (rd_T44 l n).f2 by omega)]
    exact ⟨o1.1, o2.2.2, fun _ => o3.2.1⟩
  · rw [if_neg kk]
    by_cases k2 : (rd_T44 l k).f1 < (ts.length : Int)
    · have o1 := ho.two (a := (rd_T44 l n).f1) (z := (rd_T44 l k).f1) (by omega) (by omega) (by omega)
      rw [if_pos k2]
      refine ⟨?_, Int.le_refl _, fun h => absurd h kk⟩
      by_cases nn : (rd_T44 l n).f1 < (rd_T44 l n).f2
      · rw [if_pos nn]
        exact o1.1
      · rw [if_neg nn, if_pos (by omega)]
        exact o1.1
    · rw [if_neg k2]
      by_cases k3 : 0 < ts.length
      · rw [if_pos k3]
        refine ⟨?_, Int.le_refl _, fun h => absurd h kk⟩
        by_cases nn : (rd_T44 l n).f1 < (rd_T44 l n).f2
        · rw [if_pos nn]
          exact (ho.two (a := (rd_T44 l n).f1) (z := (ts.length : Int) - 1) (by omega) (by omega) (by omega)).2.2
        · rw [if_neg nn]
          by_cases n2 : (rd_T44 l n).f1 < (ts.length : Int)
          · rw [if_pos n2]
            exact (ho.two (a := (rd_T44 l n).f1) (z := (ts.length : Int) - 1) (by omega) (by omega) (by omega)).2.2
          · rw [if_neg n2]
            exact Int.le_refl _
      · rw [if_neg k3]
        have e0 : ts.length = 0 := by omega
        rw [if_neg (by omega), if_neg (by omega)]
        exact ⟨Int.le_refl _, Int.le_refl _, fun h => absurd h kk⟩
theorem kid_sub {l : List S44} {t : Int} (hf : Fine l t) (i : Nat) (hi : i < l.length) (k : Int) (hk : k ∈ l[i].f3) : inN l k ∧ l[i].f1 ≤ (rd_T44 l k).f1 ∧ (rd_T44 l k).f2 ≤ l[i].f2 := by
  have hle : ∀ q ∈ l[i].f3, (rd_T44 l q).f1 ≤ (rd_T44 l q).f2 := fun q hq => by
    have := hf.kid i hi q hq
    exact (hf.rdh (n := q) ⟨by omega, by omega⟩).2.1
  have hc := (hf.head i hi).2
  have hkk := hf.kid i hi k hk
  refine ⟨⟨by omega, by omega⟩, (chain_le l _ _ _ hle hc).2 k hk, ?_⟩
  have hi2 : ∀ (ks : List Int) (a : Int), (∀ q ∈ ks, (rd_T44 l q).f1 ≤ (rd_T44 l q).f2) → chain l a ks l[i].f2 = true → ∀ q ∈ ks, (rd_T44 l q).f2 ≤ l[i].f2 := by
    intro ks
    induction ks with
    | nil => intro a _ _ q hq; cases hq
    | cons x ks ih =>
      intro a hl h q hq
      rw [chain] at h
      split at h
      · rcases List.mem_cons.1 hq with rfl | hq
        · exact (chain_le l _ ks _ (fun y hy => hl y (List.mem_cons_of_mem _ hy)) h).1
        · exact ih _ (fun y hy => hl y (List.mem_cons_of_mem _ hy)) h q hq
      · cases h
  exact hi2 _ _ hle hc k hk
theorem within_l2 (b : List Int) (ts : List S38) (l : List S44) (hs : Small l) (hf : Fine l ts.length) (ht : ts.length ≤ 100) (ho : Ordered ts) (n : Nat) (hn : n < l.length)
    (next : Ev (fun k => cavillaw15_ViewWithin.l1 k (fileOf b ts l) (l.length : Int) (wrap64 ((n : Int) + 1)) b ts l) true) : ∀ (d i : Nat), i + d = l[n].f3.length →
    Ev (fun k => cavillaw15_ViewWithin.l2 k (fileOf b ts l) (n : Int) (l.length : Int) (n : Int) (l[n].f3.length : Int) (i : Int) b ts l (spanN ts l n).1 (spanN ts l n).2) true
  | 0, i, h => by
    refine evNext next fun k => ?_
    simp only [cavillaw15_ViewWithin.l2]
    rw [if_neg (by omega)]
  | d + 1, i, h => by
    have hi : i < l[n].f3.length := by omega
    have hk20 := hs.2 _ (List.getElem_mem hn)
    have ih := within_l2 b ts l hs hf ht ho n hn next d (i + 1) (by omega)
    have hm := List.getElem_mem hi
    obtain ⟨hin, s1, s2⟩ := kid_sub hf n hn _ hm
    have nn : inN l (n : Int) := ⟨by omega, by omega⟩
    have en : nodeN l (n : Int) = (l[n].f0, l[n].f1, l[n].f2, l[n].f3) := by unfold nodeN; rw [if_pos nn, rd33_nat l n hn]
    have ek : view_File_Kid.f (fileOf b ts l) (n : Int) (i : Int) = some l[n].f3[i] := by
      rw [kid_f, en]
      dsimp only
      rw [if_pos ⟨by omega, by omega⟩, rd_nat _ i hi]
    have e1 : (i : Int) < (l[n].f3.length : Int) := by omega
    have sw := span_within hf ho nn hin (by rw [rd33_nat l n hn]; exact s1) (by rw [rd33_nat l n hn]; exact s2)
    have w := w64_succ hi (show l[n].f3.length ≤ 9223372036854775807 by omega)
    obtain ⟨k1, h1⟩ := ev_get (span_ev b ts l hf ht l[n].f3[i])
    obtain ⟨k2, h2⟩ := ev_get ih
    refine ⟨k1 + k2 + 1, fun k hk => ?_⟩
    obtain ⟨k, rfl⟩ : ∃ j, k = j + 1 := ⟨k - 1, by omega⟩
    simp only [cavillaw15_ViewWithin.l2]
    rw [if_pos e1, ek, Option.bind_some, h1 k (by omega), Option.bind_some, if_neg (Int.not_lt.2 sw.1), if_neg (Int.not_lt.2 sw.2.1), w]
    by_cases c : (spanN ts l l[n].f3[i]).2 > (spanN ts l n).2
    · rw [if_pos c, Option.bind_some, if_pos hin.1, if_pos hin.2, Option.bind_some, if_pos hin.1, if_pos hin.2, if_neg (fun h => Int.not_lt.2 (sw.2.2 h) c)]
      exact h2 k (by omega)
    · rw [if_neg c]
      exact h2 k (by omega)
theorem within_l1 (b : List Int) (ts : List S38) (l : List S44) (hs : Small l) (hf : Fine l ts.length) (ht : ts.length ≤ 100) (ho : Ordered ts) : ∀ (d n : Nat), n + d = l.length →
    Ev (fun k => cavillaw15_ViewWithin.l1 k (fileOf b ts l) (l.length : Int) (n : Int) b ts l) true
  | 0, n, h => by
    refine evNext (vworks_ev.bind (f := fun _ t => some t) (Ev.now _)) fun k => ?_
    simp only [cavillaw15_ViewWithin.l1]
    rw [if_neg (by omega)]
  | d + 1, n, h => by
    have hn : n < l.length := by omega
    have hl := hs.1
    have ih := within_l1 b ts l hs hf ht ho d (n + 1) (by omega)
    have w := w64_succ hn (show l.length ≤ 9223372036854775807 by omega)
    obtain ⟨k1, h1⟩ := ev_get (span_ev b ts l hf ht (n : Int))
    obtain ⟨k2, h2⟩ := ev_get (within_l2 b ts l hs hf ht ho n hn (by rw [w]; exact ih) l[n].f3.length 0 (by omega))
    refine ⟨k1 + k2 + 1, fun k hk => ?_⟩
    obtain ⟨k, rfl⟩ : ∃ j, k = j + 1 := ⟨k - 1, by omega⟩
    simp only [cavillaw15_ViewWithin.l1]
    rw [if_pos (by omega), h1 k (by omega), Option.bind_some, if_pos (by omega), if_pos (by omega), rd33_nat l n hn]
    exact h2 k (by omega)
theorem within_l0 (b : List Int) (ts : List S38) (l : List S44) (hs : Small l) (hf : Fine l ts.length) (ht : ts.length ≤ 100) : ∀ (d i : Nat), i + d = ts.length →
    (∀ j : Nat, j < i → (tk15 ts j).f1 ≤ (tk15 ts j).f2 ∧ (0 < j → (tk15 ts ((j : Int) - 1)).f2 ≤ (tk15 ts j).f1)) →
    Ev (fun k => cavillaw15_ViewWithin.l0 k (fileOf b ts l) ts (ts.length : Int) (i : Int) b ts l) true
  | 0, i, h, ho => by
    refine evNext (within_l1 b ts l hs hf ht (fun j hj => ho j (by omega)) l.length 0 (by omega)) fun k => ?_
    simp only [cavillaw15_ViewWithin.l0]
    rw [if_neg (by omega)]
    rfl
  | d + 1, i, h, ho => by
    have hi : i < ts.length := by omega
    have w := w64_succ hi (show ts.length ≤ 9223372036854775807 by omega)
    have fin_ : Ev (fun k => (cavillaw15_works.f k).bind fun t => some t) true := vworks_ev.bind (f := fun _ t => some t) (Ev.now _)
    by_cases c1 : (tk15 ts i).f1 > (tk15 ts i).f2
    · refine evNext fin_ fun k => ?_
      simp only [cavillaw15_ViewWithin.l0]
      rw [if_pos (by omega), if_pos (by omega), if_pos (by omega), if_pos c1]
    · by_cases c2 : 0 < i
      · have w1 : wrap64 ((i : Int) - 1) = (i : Int) - 1 := w64_id (by omega) (by omega)
        by_cases c3 : (tk15 ts i).f1 < (tk15 ts ((i : Int) - 1)).f2
        · refine evNext fin_ fun k => ?_
          simp only [cavillaw15_ViewWithin.l0]
          rw [if_pos (by omega), if_pos (by omega), if_pos (by omega), if_neg c1, if_pos (by omega), w1, if_pos (by omega), if_pos (by omega), if_pos c3]
        · refine evNext (within_l0 b ts l hs hf ht d (i + 1) (by omega) (fun j hj => ?_)) fun k => ?_
          · by_cases e : j = i
            · subst e
              exact ⟨by omega, fun _ => by omega⟩
            · exact ho j (by omega)
          · simp only [cavillaw15_ViewWithin.l0]
            rw [if_pos (by omega), if_pos (by omega), if_pos (by omega), if_neg c1, if_pos (by omega), w1, if_pos (by omega), if_pos (by omega), if_neg c3, w]
      · refine evNext (within_l0 b ts l hs hf ht d (i + 1) (by omega) (fun j hj => ?_)) fun k => ?_
        · by_cases e : j = i
          · subst e
            exact ⟨by omega, fun h => absurd h c2⟩
          · exact ho j (by omega)
        · simp only [cavillaw15_ViewWithin.l0]
          rw [if_pos (by omega), if_pos (by omega), if_pos (by omega), if_neg c1, if_neg (by omega), w]
theorem ViewWithin_ok (b : List Int) (ts : List S38) (l : List S44) (h : badOf (fewOf l) ((ts.take 60).length : Int) = none) : ∃ k, cavillaw15_ViewWithin.f k b ts l = some true := by
  have hs := few_small l
  have hf := fine_of h
  have ht := take60 ts
  obtain ⟨k1, h1⟩ := ev_get (few15_ev b ts l)
  obtain ⟨k2, h2⟩ := ev_get (new_ev (b.take 300) (ts.take 60) (fewOf l) hs h)
  obtain ⟨k4, h4⟩ := ev_get (within_l0 (b.take 300) (ts.take 60) (fewOf l) hs hf ht (ts.take 60).length 0 (by omega) (fun j hj => by omega))
  refine ⟨k1 + k2 + k4, ?_⟩
  unfold cavillaw15_ViewWithin.f
  rw [h1 _ (by omega), Option.bind_some]
  dsimp only
  rw [h2 _ (by omega), Option.bind_some]
  exact h4 _ (by omega)
theorem ViewWithin_bad (b : List Int) (ts : List S38) (l : List S44) {q : Option Nat} (h : badOf (fewOf l) ((ts.take 60).length : Int) = some q) : ∃ k, cavillaw15_ViewWithin_nil.f k b ts l = some true := by
  obtain ⟨k1, h1⟩ := ev_get (few15_ev b ts l)
  obtain ⟨e, he⟩ := new_nil_ev (b.take 300) (ts.take 60) (fewOf l) (few_small l) h
  obtain ⟨k2, h2⟩ := ev_get he
  obtain ⟨k8, h8⟩ := ev_get (vworks_ev)
  refine ⟨k1 + k2 + k8 + 2, ?_⟩
  unfold cavillaw15_ViewWithin_nil.f
  rw [h1 _ (by omega), Option.bind_some]
  dsimp only
  rw [h2 _ (by omega), Option.bind_some, h8 _ (by omega), Option.bind_some]
end Go.Proofs.Ytnpgadfoohjlnaa.Plain
