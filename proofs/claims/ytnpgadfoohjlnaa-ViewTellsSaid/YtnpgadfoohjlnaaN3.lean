/- ViewTells, plain: the answer is true, whether there is a file or not. No condition beyond what each lemma says. -/
import Derived.Test.YtnpgadfoohjlnaaN2
import Derived.Test.YtnpgadfoohjlnaaQV17
import Derived.Test.YtnpgadfoohjlnaaQV18
namespace Go.Proofs.Ytnpgadfoohjlnaa.Plain
open Go.RowKit Go.Proofs.YtnpgadfoohjlnaaW.PrintWords Go.Proofs.YtnpgadfoohjlnaaW.PrintLast Go.Proofs.YtnpgadfoohjlnaaW.PrintMore Go.Proofs.Ytnpgadfoohjlnaa.QV

theorem ev_get {α : Type} {g : Nat → Option α} {r : α} (h : Ev g r) : ∃ K, ∀ k, K ≤ k → g k = some r := h
theorem few15_ev (b : List Int) (ts : List S38) (l : List S44) : Ev (fun k => cavillaw15_few.f k b ts l) (b.take 300, ts.take 60, fewOf l) :=
  (few_ev l).bind (f := fun _ t => some (b.take 300, ts.take 60, t)) (Ev.now _)
theorem new_ev (b : List Int) (ts : List S38) (l : List S44) (hs : Small l) (h : badOf l (ts.length : Int) = none) : Ev (fun k => view_New.f k b ts l) (fileOf b ts l, ()) := by
  refine (check_ev l hs (ts.length : Int)).bind (f := fun _ t => if t.isNone = true then some ([(⟨b, ts, ⟨l⟩⟩ : S72)], ()) else none) ?_
  rw [h]
  exact Ev.now _
theorem new_nil_ev (b : List Int) (ts : List S38) (l : List S44) (hs : Small l) {q : Option Nat} (h : badOf l (ts.length : Int) = some q) : ∃ e, Ev (fun k => view_New_nil.f k b ts l) ((), e) := by
  obtain ⟨e, he⟩ : ∃ e, badE (some q) = some e := by cases q <;> exact ⟨_, rfl⟩
  refine ⟨e, ?_⟩
  have := (check_ev l hs (ts.length : Int)).bind (f := fun _ t => t.map fun q => ((), q)) (r := ((), e)) ?_
  · exact this
  rw [h, he]
  exact Ev.now _
theorem take60 (ts : List S38) : (ts.take 60).length ≤ 100 := by rw [List.length_take]; omega
theorem tells_j1 (b : List Int) (ts : List S38) (l : List S44) (hs : Small l) (hf : Fine l ts.length) (ht : ts.length ≤ 100) (n K : Int) :
    Ev (fun k => cavillaw15_ViewTells.j1 k n K (fileOf b ts l) (hasL ts K (ownN l n)) ((nodeN l n).1 == 0) b ts l) true := by
  obtain ⟨k1, h1⟩ := ev_get (op_ev b ts l hf ht n)
  obtain ⟨k2, h2⟩ := ev_get (rop_ev ts l hs hf ht n)
  obtain ⟨k3, h3⟩ := ev_get (chan_ev b ts l hf ht n)
  obtain ⟨k4, h4⟩ := ev_get (rchan_ev ts l hs hf ht n)
  obtain ⟨k5, h5⟩ := ev_get (span_ev b ts l hf ht n)
  obtain ⟨k6, h6⟩ := ev_get (rspan_ev ts l hf ht n)
  obtain ⟨k7, h7⟩ := ev_get (has_ev b ts l hf ht n K)
  obtain ⟨k8, h8⟩ := ev_get (vworks_ev)
  refine ⟨k1 + k2 + k3 + k4 + k5 + k6 + k7 + k8 + 1, fun k hk => ?_⟩
  obtain ⟨k, rfl⟩ : ∃ j, k = j + 1 := ⟨k - 1, by omega⟩
  simp only [cavillaw15_ViewTells.j1]
  rw [h1 k (by omega), Option.bind_some, h2 k (by omega), Option.bind_some, if_pos rfl, h3 k (by omega), Option.bind_some, h4 k (by omega), Option.bind_some, if_pos rfl, h5 k (by omega), Option.bind_some, h6 k (by omega), Option.bind_some, if_pos (by simp), h7 k (by omega), Option.bind_some, if_pos (by simp), empty_f, Option.bind_some, if_pos (by simp), h8 k (by omega), Option.bind_some]
theorem tells_l0 (b : List Int) (ts : List S38) (l : List S44) (hs : Small l) (hf : Fine l ts.length) (ht : ts.length ≤ 100) (n K : Int) : ∀ (d i : Nat) (x : Bool), i + d = (ownN l n).length → (x || hasL ts K ((ownN l n).drop i)) = hasL ts K (ownN l n) →
    Ev (fun k => cavillaw15_ViewTells.l0 k n K (fileOf b ts l) x (ownN l n) ((ownN l n).length : Int) (i : Int) b ts l) true
  | 0, i, x, h, hx => by
    rw [List.drop_of_length_le (by omega)] at hx
    have ex : x = hasL ts K (ownN l n) := by rw [← hx]; simp [hasL]
    refine evNext (tells_j1 b ts l hs hf ht n K) fun k => ?_
    simp only [cavillaw15_ViewTells.l0]
    rw [if_neg (by omega), in_f, Option.bind_some, ex]
    by_cases c : inN l n
    · have en : (nodeN l n).1 = (rd_T44 l n).f0 := by unfold nodeN; rw [if_pos c]
      rw [if_pos (decide_eq_true c), if_pos c.1, if_pos c.2, en]
    · have en : (nodeN l n).1 = 0 := by unfold nodeN; rw [if_neg c]
      rw [if_neg (by simpa using c), en]
      rfl
  | d + 1, i, x, h, hx => by
    have hi : i < (ownN l n).length := by omega
    have ho := ownN_len hf (show (ts.length : Int) ≤ 100 by omega) n
    have e := rd_nat (ownN l n) i hi
    have hm : 0 ≤ (ownN l n)[i] ∧ (ownN l n)[i] < (ts.length : Int) := ownN_mem hf (List.getElem_mem hi)
    have w := w64_succ hi (show (ownN l n).length ≤ 9223372036854775807 by omega)
    rw [List.drop_eq_getElem_cons hi] at hx
    have hx2 : (x || ((kd15 ts (ownN l n)[i] == K) || hasL ts K ((ownN l n).drop (i + 1)))) = hasL ts K (ownN l n) := hx
    cases x
    · refine evNext (tells_l0 b ts l hs hf ht n K d (i + 1) (kd15 ts (ownN l n)[i] == K) (by omega) (by simpa using hx2)) fun k => ?_
      simp only [cavillaw15_ViewTells.l0]
      rw [if_pos (by omega), if_pos (by omega), if_pos (by omega), if_neg (by decide), e, if_pos hm.1, if_pos hm.2, w]
    · refine evNext (tells_l0 b ts l hs hf ht n K d (i + 1) true (by omega) (by simpa using hx2)) fun k => ?_
      simp only [cavillaw15_ViewTells.l0]
      rw [if_pos (by omega), if_pos (by omega), if_pos (by omega), if_pos trivial, w]
theorem ViewTells_ok (b : List Int) (ts : List S38) (l : List S44) (n K : Int) (h : badOf (fewOf l) ((ts.take 60).length : Int) = none) : ∃ k, cavillaw15_ViewTells.f k b ts l n K = some true := by
  have hs := few_small l
  have hf := fine_of h
  have ht := take60 ts
  obtain ⟨k1, h1⟩ := ev_get (few15_ev b ts l)
  obtain ⟨k2, h2⟩ := ev_get (new_ev (b.take 300) (ts.take 60) (fewOf l) hs h)
  obtain ⟨k3, h3⟩ := ev_get (rown15_ev (fewOf l) hs hf (by omega) n)
  obtain ⟨k4, h4⟩ := ev_get (tells_l0 (b.take 300) (ts.take 60) (fewOf l) hs hf ht n K (ownN (fewOf l) n).length 0 false (by omega) (by simp))
  refine ⟨k1 + k2 + k3 + k4, ?_⟩
  unfold cavillaw15_ViewTells.f
  rw [h1 _ (by omega), Option.bind_some]
  dsimp only
  rw [h2 _ (by omega), Option.bind_some, h3 _ (by omega), Option.bind_some]
  exact h4 _ (by omega)
theorem ViewTells_bad (b : List Int) (ts : List S38) (l : List S44) (n K : Int) {q : Option Nat} (h : badOf (fewOf l) ((ts.take 60).length : Int) = some q) : ∃ k, cavillaw15_ViewTells_nil.f k b ts l n K = some true := by
  obtain ⟨k1, h1⟩ := ev_get (few15_ev b ts l)
  obtain ⟨e, he⟩ := new_nil_ev (b.take 300) (ts.take 60) (fewOf l) (few_small l) h
  obtain ⟨k2, h2⟩ := ev_get he
  obtain ⟨k8, h8⟩ := ev_get (vworks_ev)
  refine ⟨k1 + k2 + k8 + 2, ?_⟩
  unfold cavillaw15_ViewTells_nil.f
  rw [h1 _ (by omega), Option.bind_some]
  dsimp only
  rw [h2 _ (by omega), Option.bind_some, if_pos (by decide)]
  have e1 : view_File_Op_nil.f (k1 + k2 + k8 + 2) () n = some 0 := rfl
  have e2 : view_File_Chan_nil.f () n = some 0 := rfl
  have e3 : view_File_Span_nil.f () n = some (0, 0) := rfl
  have e4 : view_File_Has_nil.f (k1 + k2 + k8 + 2) () n K = some false := rfl
  have e5 : view_File_Empty_nil.f () n = some true := rfl
  dsimp only
  rw [e1, Option.bind_some, e2, Option.bind_some, if_pos (show wrap64 (0 + 0) = 0 by unfold wrap64; omega), e3, Option.bind_some, if_pos (by decide), e4, Option.bind_some, if_neg (by decide), e5, Option.bind_some, if_pos rfl, h8 _ (by omega), Option.bind_some]
end Go.Proofs.Ytnpgadfoohjlnaa.Plain
