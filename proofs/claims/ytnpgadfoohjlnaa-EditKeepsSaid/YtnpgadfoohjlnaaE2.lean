/- EditKeeps, plain: each byte that no edit has stands where Map says, and Back leads to it. For every list of bytes and every list of edits. -/
import Derived.Test.YtnpgadfoohjlnaaE1
import Derived.Test.YtnpgadfoohjlnaaR1
import Derived.Test.YtnpgadfoohjlnaaQA13
namespace Go.Proofs.Ytnpgadfoohjlnaa.Plain
open Go.RowKit Go.Proofs.YtnpgadfoohjlnaaW.PrintWords Go.Proofs.YtnpgadfoohjlnaaW.PrintLast Go.Proofs.YtnpgadfoohjlnaaW.PrintMore Go.Proofs.Ytnpgadfoohjlnaa.QA

/-- Is a place in one of the edits? -/
def InL (off : Int) (l : List S64) : Prop := ∃ x ∈ l, x.f0 ≤ off ∧ off < x.f1
/-- By how much a place that no edit has moves. -/
def delta (off : Int) : List S64 → Int
  | [] => 0
  | x :: r => (if x.f1 ≤ off then more x else 0) + delta off r
theorem more_bd {x : S64} {n : Int} (h0 : 0 ≤ x.f0) (h1 : x.f0 ≤ x.f1) (h2 : x.f1 ≤ n) (hn : n ≤ 300) (hs : x.f2.size ≤ 40) : -300 ≤ more x ∧ more x ≤ 40 := by
  unfold more
  omega
theorem small_cons {x : S64} {r : List S64} (h : small (x :: r)) : x.f2.size ≤ 40 ∧ small r := ⟨h x (List.mem_cons_self ..), fun y hy => h y (List.mem_cons_of_mem _ hy)⟩
theorem inL_cons {off : Int} {x : S64} {r : List S64} : InL off (x :: r) ↔ (x.f0 ≤ off ∧ off < x.f1) ∨ InL off r := by
  unfold InL
  simp
theorem gstep_eq {n : Int} {x : S64} (h : -100000 ≤ n + more x ∧ n + more x ≤ 100000) : gstep n x = n + more x := w64_id (by omega) (by omega)
/-- Ahead of all edits nothing moves. -/
theorem delta_ahead {n : Int} {off : Int} : ∀ {l : List S64} {a : Int}, ValidL n a l → off < a → delta off l = 0
  | [], a, _, _ => rfl
  | x :: r, a, ⟨v0, v1, v2, v3⟩, h => by
    simp only [delta]
    rw [if_neg (by omega), delta_ahead v3 (by omega)]
    rfl
theorem not_in_ahead {n : Int} {off : Int} : ∀ {l : List S64} {a : Int}, ValidL n a l → off < a → ¬ InL off l
  | [], a, _, _ => fun ⟨_, h, _⟩ => by simp at h
  | x :: r, a, ⟨v0, v1, v2, v3⟩, h => fun hi => by
    rcases inL_cons.1 hi with hi | hi
    · omega
    · exact not_in_ahead v3 (by omega) hi
/-- What the place of a byte that stays is, and what stands there. -/
theorem app_at (b : List Int) (off : Int) : ∀ {l : List S64} {a : Int}, ValidL b.length a l → 0 ≤ a → a ≤ off → off < b.length → ¬ InL off l →
    0 ≤ off - a + delta off l ∧ (app b a l)[(off - a + delta off l).toNat]? = b[off.toNat]?
  | [], a, v, h0, ha, hb, hn => by
    simp only [delta, app]
    refine ⟨by omega, ?_⟩
    rw [List.getElem?_drop]
    congr 1
    omega
  | x :: r, a, ⟨v0, v1, v2, v3⟩, h0, ha, hb, hn => by
    have hn' : ¬ (x.f0 ≤ off ∧ off < x.f1) := fun h => hn (inL_cons.2 (.inl h))
    have hnr : ¬ InL off r := fun h => hn (inL_cons.2 (.inr h))
    have hl1 : ((b.take x.f0.toNat).drop a.toNat).length = x.f0.toNat - a.toNat := by rw [List.length_drop, List.length_take]; omega
    simp only [delta, app]
    by_cases c : off < x.f0
    · have hd := delta_ahead v3 (show off < x.f1 by omega)
      rw [if_neg (by omega), hd]
      refine ⟨by omega, ?_⟩
      rw [List.append_assoc, List.getElem?_append_left (by omega), List.getElem?_drop, List.getElem?_take_of_lt (by omega)]
      congr 1
      omega
    · obtain ⟨i0, i1⟩ := app_at b off v3 (by omega) (show x.f1 ≤ off by omega) hb hnr
      rw [if_pos (by omega)]
      have hl2 : (bytesOf x.f2).length = x.f2.size := bytesOf_length _
      have hm : more x = (x.f2.size : Int) - (x.f1 - x.f0) := rfl
      refine ⟨by omega, ?_⟩
      rw [List.getElem?_append_right (by rw [List.length_append]; omega), ← i1, List.length_append]
      congr 1
      omega
theorem delta_low (b : List Int) {off : Int} {l : List S64} {a : Int} (v : ValidL b.length a l) (h0 : 0 ≤ a) (ha : a ≤ off) (hb : off < b.length) (hn : ¬ InL off l) : a ≤ off + delta off l := by
  have := (app_at b off v h0 ha hb hn).1
  omega
theorem delta_mono (b : List Int) {off off' : Int} (h : off < off') (hb : off' < b.length) : ∀ {l : List S64} {a : Int}, ValidL b.length a l → 0 ≤ a → a ≤ off → ¬ InL off l → ¬ InL off' l → off + delta off l < off' + delta off' l
  | [], a, v, h0, ha, hn, hn' => by
    simp only [delta]
    omega
  | x :: r, a, ⟨v0, v1, v2, v3⟩, h0, ha, hn, hn' => by
    have n1 : ¬ (x.f0 ≤ off ∧ off < x.f1) := fun h => hn (inL_cons.2 (.inl h))
    have n2 : ¬ (x.f0 ≤ off' ∧ off' < x.f1) := fun h => hn' (inL_cons.2 (.inl h))
    have hnr : ¬ InL off r := fun h => hn (inL_cons.2 (.inr h))
    have hnr' : ¬ InL off' r := fun h => hn' (inL_cons.2 (.inr h))
    simp only [delta]
    by_cases c : x.f1 ≤ off
    · have := delta_mono b h hb v3 (by omega) c hnr hnr'
      rw [if_pos c, if_pos (by omega)]
      omega
    · have d1 := delta_ahead v3 (show off < x.f1 by omega)
      rw [if_neg c, d1]
      by_cases c' : x.f1 ≤ off'
      · have := delta_low b v3 (by omega) c' hb hnr'
        have hm : more x = (x.f2.size : Int) - (x.f1 - x.f0) := rfl
        rw [if_pos c']
        omega
      · have d2 := delta_ahead v3 (show off' < x.f1 by omega)
        rw [if_neg c', d2]
        omega
theorem map_out (n : Int) (hn : n ≤ 300) (off : Int) (h0 : 0 ≤ off) (h1 : off ≤ 300) (l : List S64) : ∀ (a g m : Int), ValidL n a l → 0 ≤ a → small l → -100000 + 400 * (l.length : Int) ≤ m → m ≤ 100000 - 400 * (l.length : Int) → l.length ≤ 200 → ¬ InL off l → mapGo off l g m = (off + m + delta off l, true) := by
  induction l with
  | nil =>
    intro a g m v ha hs m0 m1 hl hi
    rw [List.length_nil] at m0 m1
    simp only [mapGo, delta]
    rw [w64_id (by omega) (by omega), Int.add_zero]
  | cons x r ih =>
    intro a g m v ha hs m0 m1 hl hi
    obtain ⟨v0, v1, v2, v3⟩ := v
    obtain ⟨s0, s1⟩ := small_cons hs
    have hb := more_bd (by omega) v1 v2 hn s0
    have n1 : ¬ (x.f0 ≤ off ∧ off < x.f1) := fun h => hi (inL_cons.2 (.inl h))
    have hnr : ¬ InL off r := fun h => hi (inL_cons.2 (.inr h))
    rw [List.length_cons] at m0 m1 hl
    simp only [mapGo, delta]
    rw [if_neg n1]
    by_cases c : x.f1 ≤ off
    · rw [if_pos c, if_pos c, gstep_eq (n := m) (by omega), ih _ _ _ v3 (by omega) s1 (by omega) (by omega) (by omega) hnr, show off + (m + more x) + delta off r = off + m + (more x + delta off r) by omega]
    · rw [if_neg c, if_neg c, ih _ _ _ v3 (by omega) s1 (by omega) (by omega) (by omega) hnr, Int.zero_add]
theorem map_in (off : Int) : ∀ {l : List S64} (g m : Int), InL off l → (mapGo off l g m).2 = false
  | [], g, m, ⟨_, h, _⟩ => by simp at h
  | x :: r, g, m, hi => by
    simp only [mapGo]
    by_cases c : x.f0 ≤ off ∧ off < x.f1
    · rw [if_pos c]
    · rw [if_neg c]
      exact map_in off _ _ ((inL_cons.1 hi).resolve_left c)
theorem back_beyond (n : Int) (hn : n ≤ 300) (to_ : Int) (l : List S64) : ∀ (a g m : Int), ValidL n a l → 0 ≤ a → small l → -100000 + 400 * (l.length : Int) ≤ g → g ≤ 100000 - 400 * (l.length : Int) → l.length ≤ 200 → -100000 ≤ to_ - m → to_ - m ≤ 100000 → to_ < a + g → backGo to_ l g m = (to_ - m, true) := by
  induction l with
  | nil =>
    intro a g m v ha hs g0 g1 hl m0 m1 ht
    simp only [backGo]
    rw [w64_id (by omega) (by omega)]
  | cons x r ih =>
    intro a g m v ha hs g0 g1 hl m0 m1 ht
    obtain ⟨v0, v1, v2, v3⟩ := v
    obtain ⟨s0, s1⟩ := small_cons hs
    have hb := more_bd (by omega) v1 v2 hn s0
    have hm : more x = (x.f2.size : Int) - (x.f1 - x.f0) := rfl
    rw [List.length_cons] at g0 g1 hl
    have e1 : wrap64 (x.f0 + g) = x.f0 + g := w64_id (by omega) (by omega)
    have e2 : wrap64 (x.f0 + g + (x.f2.size : Int)) = x.f0 + g + x.f2.size := w64_id (by omega) (by omega)
    simp only [backGo]
    rw [e1, e2, if_neg (by omega), if_neg (by omega), gstep_eq (by omega), ih _ _ _ v3 (by omega) s1 (by omega) (by omega) (by omega) m0 m1 (by omega)]
theorem back_out (b : List Int) (hn : (b.length : Int) ≤ 300) (off : Int) (hb : off < b.length) (l : List S64) : ∀ (a g : Int), ValidL b.length a l → 0 ≤ a → a ≤ off → small l → -100000 + 400 * (l.length : Int) ≤ g → g ≤ 100000 - 400 * (l.length : Int) → l.length ≤ 200 → ¬ InL off l → backGo (off + g + delta off l) l g g = (off, true) := by
  induction l with
  | nil =>
    intro a g v ha ho hs g0 g1 hl hi
    simp only [backGo, delta]
    rw [Int.add_zero, show off + g - g = off by omega, w64_id (by omega) (by omega)]
  | cons x r ih =>
    intro a g v ha ho hs g0 g1 hl hi
    obtain ⟨v0, v1, v2, v3⟩ := v
    obtain ⟨s0, s1⟩ := small_cons hs
    have hbd := more_bd (by omega) v1 v2 hn s0
    have hm : more x = (x.f2.size : Int) - (x.f1 - x.f0) := rfl
    have n1 : ¬ (x.f0 ≤ off ∧ off < x.f1) := fun h => hi (inL_cons.2 (.inl h))
    have hnr : ¬ InL off r := fun h => hi (inL_cons.2 (.inr h))
    rw [List.length_cons] at g0 g1 hl
    have e1 : wrap64 (x.f0 + g) = x.f0 + g := w64_id (by omega) (by omega)
    have e2 : wrap64 (x.f0 + g + (x.f2.size : Int)) = x.f0 + g + x.f2.size := w64_id (by omega) (by omega)
    by_cases c : off < x.f0
    · have d : delta off (x :: r) = 0 := by
        simp only [delta]
        rw [if_neg (show ¬ x.f1 ≤ off by omega), delta_ahead v3 (show off < x.f1 by omega)]
        rfl
      rw [d]
      simp only [backGo]
      rw [e1, e2, if_neg (by omega), if_neg (by omega), gstep_eq (by omega), back_beyond b.length hn _ r _ _ _ v3 (by omega) s1 (by omega) (by omega) (by omega) (by omega) (by omega) (by omega), show off + g + 0 - g = off by omega]
    · have hlo := delta_low b v3 (by omega) (show x.f1 ≤ off by omega) hb hnr
      have d : delta off (x :: r) = more x + delta off r := by
        simp only [delta]
        rw [if_pos (show x.f1 ≤ off by omega)]
      rw [d]
      simp only [backGo]
      rw [e1, e2, if_neg (by omega), if_pos (by omega), gstep_eq (by omega)]
      have := ih _ (g + more x) v3 (by omega) (by omega) s1 (by omega) (by omega) (by omega) hnr
      rw [show off + g + (more x + delta off r) = off + (g + more x) + delta off r by omega]
      exact this
theorem app_len (b : List Int) : ∀ {l : List S64} {a : Int}, ValidL b.length a l → 0 ≤ a → small l → (app b a l).length ≤ b.length - a.toNat + 40 * l.length
  | [], a, v, h0, hs => by
    simp only [app]
    rw [List.length_drop]
    omega
  | x :: r, a, ⟨v0, v1, v2, v3⟩, h0, hs => by
    obtain ⟨s0, s1⟩ := small_cons hs
    have := app_len b v3 (by omega) s1
    have hl2 : (bytesOf x.f2).length = x.f2.size := bytesOf_length _
    simp only [app]
    rw [List.length_append, List.length_append, List.length_drop, List.length_take, List.length_cons, hl2]
    omega
theorem few_small (l : List S64) : small (fewOf l) := by
  intro x hx
  unfold fewOf at hx
  obtain ⟨y, _, rfl⟩ := List.mem_map.1 hx
  unfold fewOne
  show (y.f2.extract 0 _).size ≤ 40
  rw [ByteArray.size_extract]
  have : (mn (y.f2.size : Int) 40).toNat ≤ 40 := by
    unfold mn
    split <;> omega
  omega
theorem works_ev : Ev (fun k => cavillaw04_works.f k) true := Ev.of (fun k => cavillaw04_works.mono k) (k := 60) (by decide +kernel)
/-- The inner loop: is a place in one of the edits? -/
theorem in_loop (b : List Int) (l : List S64) (hl : l.length ≤ 12) (x5 : List Int) (last off to_ : Int) (is_ : Bool) (n : Int) (R : Bool) (hR : ∀ c : Bool, (c = true ↔ InL off l) → Ev (fun k => if (is_ == c) = true then some false else if c = true then cavillaw04_EditKeeps.l0 k b l x5 last n (wrap64 (off + 1)) else if to_ ≤ last then cavillaw04_EditKeeps.j2 k b l x5 off to_ n off true else if to_ ≥ (x5.length : Int) then cavillaw04_EditKeeps.j2 k b l x5 off to_ n off true else if 0 ≤ to_ then if to_ < (x5.length : Int) then if 0 ≤ off then if off < (b.length : Int) then cavillaw04_EditKeeps.j2 k b l x5 off to_ n off ((rd x5 to_) != (rd b off)) else none else none else none else none) R) :
    ∀ (d i : Nat) (c : Bool), i + d = l.length → (c = true ↔ InL off (l.take i)) → Ev (fun k => cavillaw04_EditKeeps.l1 k b l x5 last off to_ is_ c n off l (l.length : Int) (i : Int)) R
  | 0, i, c, h, hc => by
    rw [List.take_of_length_le (by omega)] at hc
    refine evNext (hR c hc) (fun k => ?_)
    simp only [cavillaw04_EditKeeps.l1]
    rw [if_neg (by omega)]
  | d + 1, i, c, h, hc => by
    have hi : i < l.length := by omega
    have ht : l.take (i + 1) = l.take i ++ [l[i]] := List.take_succ_eq_append_getElem hi
    have hin : ∀ c' : Bool, (c' = true ↔ c = true ∨ (l[i].f0 ≤ off ∧ off < l[i].f1)) → (c' = true ↔ InL off (l.take (i + 1))) := by
      intro c' hc'
      rw [hc', hc, ht]
      unfold InL
      constructor
      · rintro (⟨x, hx, h⟩ | h)
        · exact ⟨x, List.mem_append_left _ hx, h⟩
        · exact ⟨l[i], List.mem_append_right _ (List.mem_singleton.2 rfl), h⟩
      · rintro ⟨x, hx, h⟩
        rcases List.mem_append.1 hx with hx | hx
        · exact .inl ⟨x, hx, h⟩
        · rw [List.mem_singleton.1 hx] at h
          exact .inr h
    cases c with
    | true =>
      refine evNext (in_loop b l hl x5 last off to_ is_ n R hR d (i + 1) true (by omega) (hin true (by simp))) (fun k => ?_)
      simp only [cavillaw04_EditKeeps.l1]
      rw [if_pos (by omega), if_pos (by omega), if_pos (by omega), w64_succ hi (by omega)]
      rfl
    | false =>
      by_cases e : l[i].f0 ≤ off
      · refine evNext (in_loop b l hl x5 last off to_ is_ n R hR d (i + 1) (decide (off < l[i].f1)) (by omega) (hin _ (by simp [e]))) (fun k => ?_)
        simp only [cavillaw04_EditKeeps.l1]
        rw [if_pos (by omega), if_pos (by omega), if_pos (by omega), rdE l i hi, if_neg (show ¬ (false = true) by simp), if_pos e, w64_succ hi (by omega)]
      · refine evNext (in_loop b l hl x5 last off to_ is_ n R hR d (i + 1) false (by omega) (hin _ (by simp [e]))) (fun k => ?_)
        simp only [cavillaw04_EditKeeps.l1]
        rw [if_pos (by omega), if_pos (by omega), if_pos (by omega), rdE l i hi, if_neg (show ¬ (false = true) by simp), if_neg e, w64_succ hi (by omega)]
theorem keep_loop (b : List Int) (l : List S64) (hl : l.length ≤ 12) (hn : b.length ≤ 300) (hs : small l) (hv : ValidL b.length 0 l) : ∀ (d off : Nat) (last : Int), off + d = b.length → (∀ o : Int, (off : Int) ≤ o → o < b.length → ¬ InL o l → last < o + delta o l) →
    Ev (fun k => cavillaw04_EditKeeps.l0 k b l (app b 0 l) last (b.length : Int) (off : Int)) true
  | 0, off, last, h, _ => by
    refine evNext (f := fun k => (cavillaw04_works.f k).bind fun t => some t) (Ev.bind (f := fun _ t => some t) works_ev (Ev.now _)) (fun k => ?_)
    simp only [cavillaw04_EditKeeps.l0]
    rw [if_neg (by omega)]
  | d + 1, off, last, h, hlast => by
    have ho : off < b.length := by omega
    have hw : wrap64 ((off : Int) + 1) = ((off + 1 : Nat) : Int) := w64_succ ho (by omega)
    refine evNext (f := fun k => (edit_Map.f k l (off : Int)).bind fun t => cavillaw04_EditKeeps.l1 k b l (app b 0 l) last (off : Int) t.1 t.2 false (b.length : Int) (off : Int) l (l.length : Int) 0) ?_ (fun k => by simp only [cavillaw04_EditKeeps.l0]; rw [if_pos (by omega)])
    refine Ev.bind (f := fun k t => cavillaw04_EditKeeps.l1 k b l (app b 0 l) last (off : Int) t.1 t.2 false (b.length : Int) (off : Int) l (l.length : Int) 0) (map_ev l (off : Int) (by omega)) ?_
    refine in_loop b l hl (app b 0 l) last (off : Int) _ _ (b.length : Int) true (fun c hc => ?_) l.length 0 false (by omega) ⟨fun h => (by cases h), fun ⟨_, h, _⟩ => (by simp at h)⟩
    have ih := fun last' h' => keep_loop b l hl hn hs hv d (off + 1) last' (by omega) h'
    by_cases q : InL (off : Int) l
    · rw [hc.2 q, map_in _ _ _ q, hw]
      simp only [show ((false == true) = true) = False by simp, if_false, if_true]
      exact ih last (fun o h1 h2 h3 => hlast o (by omega) h2 h3)
    · have hcf : c = false := by
        cases c with
        | false => rfl
        | true => exact absurd (hc.1 rfl) q
      have hm := map_out (b.length : Int) (by omega) (off : Int) (by omega) (by omega) l 0 0 0 hv (by omega) hs (by omega) (by omega) (by omega) q
      rw [Int.add_zero] at hm
      rw [hm, hcf, hw]
      simp only [show ((true == false) = true) = False by simp, show (false = true) = False by simp, if_false]
      have ha := app_at b (off : Int) hv (by omega) (by omega) (by omega) q
      rw [Int.sub_zero] at ha
      have hlt := hlast (off : Int) (by omega) (by omega) q
      have hex : ((off : Int) + delta (off : Int) l).toNat < (app b 0 l).length := by
        have h2 := ha.2
        rw [Int.toNat_natCast, List.getElem?_eq_getElem ho] at h2
        exact (List.getElem?_eq_some_iff.1 h2).1
      have hrd : rd (app b 0 l) ((off : Int) + delta (off : Int) l) = rd b (off : Int) := by
        unfold rd
        rw [List.getD_eq_getElem?_getD, List.getD_eq_getElem?_getD, ha.2]
      have i1 : ¬ ((off : Int) + delta (off : Int) l ≤ last) := by omega
      have i2 : ¬ ((off : Int) + delta (off : Int) l ≥ ((app b 0 l).length : Int)) := by omega
      have i3 : (off : Int) + delta (off : Int) l < ((app b 0 l).length : Int) := by omega
      have i4 : (0 : Int) ≤ (off : Int) := by omega
      have i5 : (off : Int) < (b.length : Int) := by omega
      simp only [if_neg i1, if_neg i2, if_pos ha.1, if_pos i3, if_pos i4, if_pos i5, hrd]
      refine evNext (f := fun k => (edit_Back.f k l ((off : Int) + delta (off : Int) l)).bind fun t => if t.1 = (off : Int) then if t.2 = true then cavillaw04_EditKeeps.l0 k b l (app b 0 l) ((off : Int) + delta (off : Int) l) (b.length : Int) ((off + 1 : Nat) : Int) else some false else some false) ?_ (fun k => ?_)
      · refine Ev.bind (f := fun k t => if t.1 = (off : Int) then if t.2 = true then cavillaw04_EditKeeps.l0 k b l (app b 0 l) ((off : Int) + delta (off : Int) l) (b.length : Int) ((off + 1 : Nat) : Int) else some false else some false) (back_ev l _ (by omega)) ?_
        have hk := back_out b (by omega) (off : Int) (by omega) l 0 0 hv (by omega) (by omega) hs (by omega) (by omega) (by omega) q
        rw [Int.add_zero] at hk
        rw [hk]
        simp only [if_true]
        exact ih _ (fun o h1 h2 h3 => delta_mono b (by omega) h2 hv (by omega) (by omega) q h3)
      · simp only [cavillaw04_EditKeeps.j2, bne_self_eq_false, hw]
        rfl
theorem EditKeeps (b : List Int) (l : List S64) (hb : Bytes8 b) : ∃ k, cavillaw04_EditKeeps.f k b l = some true := by
  refine Ev.rounds ?_
  obtain ⟨c, hc⟩ : ∃ c, c = b.take (mn (b.length : Int) 300).toNat := ⟨_, rfl⟩
  have hmn : 0 ≤ mn (b.length : Int) 300 ∧ mn (b.length : Int) 300 ≤ b.length ∧ mn (b.length : Int) 300 ≤ 300 := by
    unfold mn
    split <;> omega
  have hcn : c.length ≤ 300 := by
    rw [hc, List.length_take]
    omega
  have hcb : Bytes8 c := hc ▸ hb.take _
  refine evCong (f := fun k => (cavillaw04_few.f k l).bind fun t => (edit_Apply.f k c t).bind fun u => if u.2.isNone = true then cavillaw04_EditKeeps.l0 k c t u.1 (-1) (c.length : Int) 0 else (cavillaw04_works.f k).bind fun t => some t) ?_ (fun k => by unfold cavillaw04_EditKeeps.f; rw [if_pos hmn.1, if_pos hmn.2.1, Option.bind_some, hc])
  refine Ev.bind (f := fun k t => (edit_Apply.f k c t).bind fun u => if u.2.isNone = true then cavillaw04_EditKeeps.l0 k c t u.1 (-1) (c.length : Int) 0 else (cavillaw04_works.f k).bind fun t => some t) (few_ev l) ?_
  refine Ev.bind (f := fun k u => if u.2.isNone = true then cavillaw04_EditKeeps.l0 k c (fewOf l) u.1 (-1) (c.length : Int) 0 else (cavillaw04_works.f k).bind fun t => some t) (apply_ev c (fewOf l) hcb hcn (few_len l) (few_small l)) ?_
  unfold applyOf
  cases e : checkE c (fewOf l) with
  | some q =>
    simp only [Option.isNone_some, show (false = true) = False by simp, if_false]
    exact Ev.bind (f := fun _ t => some t) works_ev (Ev.now _)
  | none =>
    simp only [Option.isNone_none, if_true]
    have hv := checkE_valid e
    refine keep_loop c (fewOf l) (few_len l) hcn (few_small l) hv c.length 0 (-1) (by omega) (fun o h1 h2 h3 => ?_)
    have := delta_low c hv (by omega) h1 h2 h3
    omega
end Go.Proofs.Ytnpgadfoohjlnaa.Plain
