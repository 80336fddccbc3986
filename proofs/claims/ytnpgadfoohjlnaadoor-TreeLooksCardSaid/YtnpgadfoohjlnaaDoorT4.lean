/- Trees, plain: how deep, and each node's parent. No condition beyond what each lemma says. -/
import Derived.Test.YtnpgadfoohjlnaaDoorT3
import Derived.Test.YtnpgadfoohjlnaaDoorQT8
import Derived.Test.YtnpgadfoohjlnaaDoorQT9
import Derived.Test.YtnpgadfoohjlnaaDoorQT5
import Derived.Test.YtnpgadfoohjlnaaDoorQT7
namespace Go.Proofs.YtnpgadfoohjlnaaDoor.Plain
open Go.RowKit Go.Proofs.YtnpgadfoohjlnaaDoorW.PrintWords Go.Proofs.YtnpgadfoohjlnaaDoorW.PrintLast Go.Proofs.YtnpgadfoohjlnaaDoorW.PrintMore Go.Proofs.YtnpgadfoohjlnaaDoor.QT

/-- Which tree may not be, by its root's tokens. -/
def badRoot (l : List S33) : Option (Option Nat) := badOf l (rd_T33 l ((l.length - 1 : Nat) : Int)).f2
theorem sound_ev (l : List S33) (hs : Small l) : Ev (fun k => tree_sound.f k l) (badE (badRoot l)) := by
  have hl := hs.1
  by_cases h0 : l = []
  · subst h0
    refine evCong (Ev.now _) fun k => ?_
    unfold tree_sound.f
    rw [if_pos (by simp)]
    rfl
  · have hp : 0 < l.length := List.length_pos_iff.2 h0
    refine evCong ((check_ev l hs _).bind (f := fun _ t157 => some t157) (Ev.now _)) fun k => ?_
    unfold tree_sound.f
    have w : wrap64 ((l.length : Int) - 1) = ((l.length - 1 : Nat) : Int) := by
      rw [w64_id (by omega) (by omega)]
      omega
    rw [if_neg (by omega), w, if_pos (by omega), if_pos (by omega)]
theorem rsound_ev (l : List S33) (hs : Small l) : Ev (fun k => cavilref13_Sound.f k l) (badR (badRoot l)) := by
  have hl := hs.1
  by_cases h0 : l = []
  · subst h0
    refine evCong (Ev.now _) fun k => ?_
    unfold cavilref13_Sound.f
    rw [if_pos (by simp)]
    rfl
  · have hp : 0 < l.length := List.length_pos_iff.2 h0
    refine evCong ((rcheck_ev l hs _).bind (f := fun _ bt201 => some (bt201.1, bt201.2)) (Ev.now _)) fun k => ?_
    unfold cavilref13_Sound.f
    have w : wrap64 ((l.length : Int) - 1) = ((l.length - 1 : Nat) : Int) := by
      rw [w64_id (by omega) (by omega)]
      omega
    rw [if_neg (by omega), w, if_pos (by omega), if_pos (by omega)]
theorem firstBad_none {l : List S33} {t : Int} : ∀ {d i : Nat}, firstBad l t d i = none → ∀ j, i ≤ j → j < i + d → oneOk l (j : Int) t = true
  | 0, i, _, j, h1, h2 => by omega
  | d + 1, i, h, j, h1, h2 => by
    rw [firstBad] at h
    split at h
    · rename_i c
      by_cases e : j = i
      · rw [e]
        exact c
      · exact firstBad_none h j (by omega) (by omega)
    · cases h
theorem parBad_none {l : List S33} : ∀ {d i : Nat}, parBad l d i = none → ∀ j, i ≤ j → j < i + d → occ l j = 1
  | 0, i, _, j, h1, h2 => by omega
  | d + 1, i, h, j, h1, h2 => by
    rw [parBad] at h
    split at h
    · rename_i c
      by_cases e : j = i
      · rw [e]
        exact c
      · exact parBad_none h j (by omega) (by omega)
    · cases h
/-- A tree that may be. -/
structure Fine (l : List S33) (t : Int) : Prop where
  ne : 0 < l.length
  one : ∀ i : Nat, i < l.length → oneOk l (i : Int) t = true
  occ : ∀ i : Nat, i + 1 < l.length → occ l i = 1
theorem fine_of {l : List S33} {t : Int} (h : badOf l t = none) : Fine l t := by
  unfold badOf at h
  split at h
  · cases h
  · rename_i h0
    have hp : 0 < l.length := List.length_pos_iff.2 h0
    split at h
    · cases h
    · rename_i h1
      split at h
      · cases h
      · rename_i h2
        exact ⟨hp, fun i hi => firstBad_none h1 i (by omega) (by omega), fun i hi => parBad_none h2 i (by omega) (by omega)⟩
theorem Fine.kid {l : List S33} {t : Int} (h : Fine l t) (i : Nat) (hi : i < l.length) : ∀ k ∈ l[i].f3, 0 ≤ k ∧ k < (i : Int) := by
  have := oneOk_kids (h.one i hi)
  rw [rd33_nat l i hi] at this
  exact this
/-! how deep -/
def most (g : Int → Int) (ks : List Int) (m : Int) : Int := ks.foldl (fun m k => mx m (g k)) m
/-- How deep a node is. -/
def dp (l : List S33) : Nat → Int → Int
  | 0, _ => 0
  | f + 1, i => 1 + most (dp l f) (rd_T33 l i).f3 0
theorem mx_le {a b c : Int} (h : a ≤ c) (h' : b ≤ c) : mx a b ≤ c := by unfold mx; split <;> assumption
theorem mx_ge {a b c : Int} (h : c ≤ a) : c ≤ mx a b := by unfold mx; split <;> omega
theorem most_bd {g : Int → Int} {c : Int} (hg : ∀ k, g k ≤ c) : ∀ (ks : List Int) (m : Int), 0 ≤ m → m ≤ c → 0 ≤ most g ks m ∧ most g ks m ≤ c
  | [], _, h0, h1 => ⟨h0, h1⟩
  | k :: ks, m, h0, h1 => most_bd hg ks (mx m (g k)) (mx_ge h0) (mx_le h1 (hg k))
theorem dp_bd (l : List S33) : ∀ (f : Nat) (i : Int), 0 ≤ dp l f i ∧ dp l f i ≤ f
  | 0, i => ⟨Int.le_refl _, Int.le_refl _⟩
  | f + 1, i => by
    have := most_bd (fun k => (dp_bd l f k).2) (rd_T33 l i).f3 0 (by omega) (by omega)
    rw [dp]
    omega
theorem most_congr {g g' : Int → Int} : ∀ (ks : List Int) (m : Int), (∀ k ∈ ks, g k = g' k) → most g ks m = most g' ks m
  | [], _, _ => rfl
  | k :: ks, m, h => by
    show most g ks (mx m (g k)) = most g' ks (mx m (g' k))
    rw [h k (List.mem_cons_self ..), most_congr ks _ fun x hx => h x (List.mem_cons_of_mem _ hx)]
theorem dp_eq {l : List S33} {t : Int} (hf : Fine l t) : ∀ (f g i : Nat), i < l.length → i < f → i < g → dp l f i = dp l g i
  | 0, g, i, _, h, _ => by omega
  | f + 1, 0, i, _, _, h => by omega
  | f + 1, g + 1, i, hi, h1, h2 => by
    rw [dp, dp, rd33_nat l i hi]
    congr 1
    refine most_congr _ _ fun k hk => ?_
    obtain ⟨a, b⟩ := hf.kid i hi k hk
    obtain ⟨n, rfl⟩ := Int.eq_ofNat_of_zero_le a
    exact dp_eq hf f g n (by omega) (by omega) (by omega)
theorem deep_loop (l : List S33) (f i : Nat) (hi : i < l.length) (hf : f ≤ 100) (hk : l[i].f3.length ≤ 20) (ih : ∀ k ∈ l[i].f3, Ev (fun n => cavilref13_Deep.f n l k) (dp l f k)) : ∀ (d j : Nat) (m : Int), j + d = l[i].f3.length → 0 ≤ m → m ≤ f →
    Ev (fun n => cavilref13_Deep.l0 n i m (j : Int) l) (1 + most (dp l f) (l[i].f3.drop j) m)
  | 0, j, m, h, h0, h1 => by
    rw [List.drop_of_length_le (by omega)]
    refine evConst fun n => ?_
    simp only [cavilref13_Deep.l0]
    rw [if_pos (by omega), if_pos (by omega), rd33_nat l i hi, if_neg (by omega), w64_id (by omega) (by omega)]
    rfl
  | d + 1, j, m, h, h0, h1 => by
    have hj : j < l[i].f3.length := by omega
    have e := rd_nat l[i].f3 j hj
    have hb := dp_bd l f l[i].f3[j]
    rw [List.drop_eq_getElem_cons hj]
    show Ev _ (1 + most (dp l f) (l[i].f3.drop (j + 1)) (mx m (dp l f l[i].f3[j])))
    refine evNext ((ih _ (List.getElem_mem hj)).bind (f := fun n t235 => cavilref13_Deep.l0 n i (mx m t235) (wrap64 ((j : Int) + 1)) l) ?_) fun n => ?_
    · refine evCong (deep_loop l f i hi hf hk ih d (j + 1) (mx m (dp l f l[i].f3[j])) (by omega) (mx_ge h0) (mx_le h1 hb.2)) fun n => ?_
      rw [w64_succ (n := 100) (by omega) (by omega)]
    · simp only [cavilref13_Deep.l0]
      rw [if_pos (by omega), if_pos (by omega), rd33_nat l i hi, if_pos (by omega), if_pos (by omega), e]
theorem deep_ev (l : List S33) (hs : Small l) {t : Int} (hfi : Fine l t) : ∀ (f i : Nat), f ≤ 100 → i < l.length → i < f → Ev (fun n => cavilref13_Deep.f n l i) (dp l f i)
  | 0, i, _, _, h => by omega
  | f + 1, i, hf, hi, h => by
    rw [dp, rd33_nat l i hi]
    refine evNext (deep_loop l f i hi (by omega) (hs.2 _ (List.getElem_mem hi)) (fun k hk => ?_) l[i].f3.length 0 0 (by omega) (by omega) (by omega)) fun n => ?_
    · obtain ⟨a, b⟩ := hfi.kid i hi k hk
      obtain ⟨n, rfl⟩ := Int.eq_ofNat_of_zero_le a
      exact deep_ev l hs hfi f n (by omega) (by omega) (by omega)
    · simp only [cavilref13_Deep.f]
      rfl
/-! arrays of numbers -/
def iarr (n : Nat) (c : Nat → Int) : List Int := (List.range n).map c
theorem iarr_len (n : Nat) (c : Nat → Int) : (iarr n c).length = n := by simp [iarr]
theorem iarr_get (n : Nat) (c : Nat → Int) (j : Nat) (h : j < n) : rd (iarr n c) (j : Int) = c j := by
  rw [rd_nat _ j (by rw [iarr_len]; exact h)]
  simp [iarr]
theorem iarr_set (n : Nat) (c : Nat → Int) (j : Nat) (v : Int) : (iarr n c).set j v = iarr n (fun m => if m = j then v else c m) := by
  apply List.ext_getElem
  · simp [iarr]
  · intro i h1 h2
    rw [List.getElem_set]
    simp only [iarr, List.getElem_map, List.getElem_range]
    by_cases e : j = i
    · rw [if_pos e, if_pos e.symm]
    · rw [if_neg e, if_neg (fun h => e h.symm)]
theorem iarr_zero (n : Nat) : List.replicate n (0 : Int) = iarr n (fun _ => 0) := by
  apply List.ext_getElem
  · simp [iarr]
  · intro i h1 h2
    simp [iarr]
theorem depth_inner (l : List S33) {t : Int} (hf : Fine l t) (hl : l.length ≤ 40) (i : Nat) (hi : i < l.length) (hk : l[i].f3.length ≤ 20) (r : Int × Option Er)
    (next : Ev (fun n => tree_Depth.l0 n (iarr l.length (fun j => if j < i + 1 then dp l (j + 1) (j : Int) else 0)) l (l.length : Int) (wrap64 ((i : Int) + 1))) r) : ∀ (d j : Nat) (m : Int), j + d = l[i].f3.length → 0 ≤ m → m ≤ i →
    1 + most (dp l i) (l[i].f3.drop j) m = dp l (i + 1) i →
    Ev (fun n => tree_Depth.l1 n (iarr l.length (fun q => if q < i then dp l (q + 1) (q : Int) else if q = i then m else 0)) (i : Int) l (l.length : Int) (i : Int) l[i].f3 (l[i].f3.length : Int) (j : Int)) r
  | 0, j, m, h, h0, h1, hm => by
    rw [List.drop_of_length_le (by omega)] at hm
    refine evNext next fun n => ?_
    simp only [tree_Depth.l1]
    rw [if_neg (by omega), if_pos (by omega), if_pos (by rw [iarr_len]; omega), iarr_get _ _ _ hi, if_neg (by omega), if_pos rfl, Int.toNat_natCast, iarr_set, w64_id (by omega) (by omega)]
    congr 2
    funext q
    by_cases c : q = i
    · rw [if_pos c, c, if_pos (by omega), ← hm]
      show m + 1 = 1 + m
      omega
    · rw [if_neg c]
      by_cases c2 : q < i
      · rw [if_pos c2, if_pos (by omega)]
      · rw [if_neg c2, if_neg c, if_neg (by omega)]
  | d + 1, j, m, h, h0, h1, hm => by
    have hj : j < l[i].f3.length := by omega
    have e := rd_nat l[i].f3 j hj
    obtain ⟨a, b⟩ := hf.kid i hi _ (List.getElem_mem hj)
    obtain ⟨q, hq⟩ := Int.eq_ofNat_of_zero_le a
    have hb := dp_bd l (q + 1) (q : Int)
    have he := dp_eq hf (q + 1) i q (by omega) (by omega) (by omega)
    rw [List.drop_eq_getElem_cons hj] at hm
    have hm' : 1 + most (dp l i) (l[i].f3.drop (j + 1)) (mx m (dp l i l[i].f3[j])) = dp l (i + 1) i := hm
    rw [hq, ← he] at hm'
    refine evNext (depth_inner l hf hl i hi hk r next d (j + 1) (mx m (dp l (q + 1) (q : Int))) (by omega) (mx_ge h0) (mx_le h1 (by omega)) hm') fun n => ?_
    simp only [tree_Depth.l1]
    rw [if_pos (by omega), if_pos (by omega), if_pos (by omega), if_pos (by omega), if_pos (by rw [iarr_len]; omega), e, if_pos a, if_pos (by rw [iarr_len]; omega), hq, iarr_get _ _ _ hi, iarr_get _ _ q (by omega), if_neg (by omega), if_pos rfl, if_pos (by omega), Int.toNat_natCast, iarr_set, w64_succ (n := 100) (by omega) (by omega)]
    congr 2
    funext p
    by_cases c : p = i
    · rw [if_pos c, if_neg (by omega), if_pos c]
    · rw [if_neg c]
      by_cases c2 : p < i
      · rw [if_pos c2, if_pos c2]
      · rw [if_neg c2, if_neg c2, if_neg c, if_neg c]
theorem depth_outer (l : List S33) (hs : Small l) {t : Int} (hf : Fine l t) : ∀ (d i : Nat), i + d = l.length →
    Ev (fun n => tree_Depth.l0 n (iarr l.length (fun j => if j < i then dp l (j + 1) (j : Int) else 0)) l (l.length : Int) (i : Int)) (dp l l.length ((l.length - 1 : Nat) : Int), none)
  | 0, i, h => by
    have hl := hs.1
    have hp := hf.ne
    refine evConst fun n => ?_
    simp only [tree_Depth.l0]
    have w : wrap64 ((l.length : Int) - 1) = ((l.length - 1 : Nat) : Int) := by
      rw [w64_id (by omega) (by omega)]
      omega
    rw [if_neg (by omega), iarr_len, w, if_pos (by omega), if_pos (by omega), iarr_get _ _ _ (by omega), if_pos (by omega), show l.length - 1 + 1 = l.length by omega]
  | d + 1, i, h => by
    have hl := hs.1
    have hi : i < l.length := by omega
    have ih := depth_outer l hs hf d (i + 1) (by omega)
    refine evNext (depth_inner l hf hl i hi (hs.2 _ (List.getElem_mem hi)) _ ?_ l[i].f3.length 0 0 (by omega) (by omega) (by omega) ?_) fun n => ?_
    · rw [w64_succ (n := 100) (by omega) (by omega)]
      exact ih
    · rw [dp, rd33_nat l i hi]
      rfl
    · simp only [tree_Depth.l0]
      rw [if_pos (by omega), if_pos (by omega), if_pos (by omega), rd33_nat l i hi]
      congr 2
      funext q
      by_cases c : q < i
      · rw [if_pos c, if_pos c]
      · rw [if_neg c, if_neg c]
        split <;> rfl
theorem depth_bad (l : List S33) (hs : Small l) {b : Option Nat} (h : badRoot l = some b) : Ev (fun k => tree_Depth.f k l) (0, badE (some b)) := by
  unfold tree_Depth.f
  refine (sound_ev l hs).bind (f := fun k t206 => (if t206.isNone = true then (if 0 ≤ (l.length : Int) then (if ((l.length : Int) : Int).toNat ≤ 35184372088832 then (tree_Depth.l0 k (List.replicate ((l.length : Int) : Int).toNat 0) l (l.length : Int) 0) else (none)) else (none)) else (some (0, some (t206.getD (Er.no 0)))))) ?_
  rw [h]
  refine evCong (Ev.now _) fun k => ?_
  cases b <;> rfl
theorem depth_ev (l : List S33) (hs : Small l) (h : badRoot l = none) : Ev (fun k => tree_Depth.f k l) (dp l l.length ((l.length - 1 : Nat) : Int), none) := by
  have hl := hs.1
  unfold tree_Depth.f
  refine (sound_ev l hs).bind (f := fun k t206 => (if t206.isNone = true then (if 0 ≤ (l.length : Int) then (if ((l.length : Int) : Int).toNat ≤ 35184372088832 then (tree_Depth.l0 k (List.replicate ((l.length : Int) : Int).toNat 0) l (l.length : Int) 0) else (none)) else (none)) else (some (0, some (t206.getD (Er.no 0)))))) ?_
  rw [h]
  refine evCong (depth_outer l hs (fine_of h) l.length 0 (by omega)) fun k => ?_
  rw [if_pos (show (badE none).isNone = true from rfl), if_pos (by omega), if_pos (by omega), Int.toNat_natCast, iarr_zero]
  congr 2
end Go.Proofs.YtnpgadfoohjlnaaDoor.Plain
