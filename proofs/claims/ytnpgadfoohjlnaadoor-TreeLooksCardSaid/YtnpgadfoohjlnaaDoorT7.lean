/- The law TreeLooks, plain: true for every input. No condition beyond what each lemma says. -/
import Derived.Test.YtnpgadfoohjlnaaDoorT5
import Derived.Test.YtnpgadfoohjlnaaDoorT6
import Derived.Test.YtnpgadfoohjlnaaDoorQT7
import Derived.Test.YtnpgadfoohjlnaaDoorQT12
namespace Go.Proofs.YtnpgadfoohjlnaaDoor.Plain
open Go.RowKit Go.Proofs.YtnpgadfoohjlnaaDoorW.PrintWords Go.Proofs.YtnpgadfoohjlnaaDoorW.PrintLast Go.Proofs.YtnpgadfoohjlnaaDoorW.PrintMore Go.Proofs.YtnpgadfoohjlnaaDoor.QT

/-- The root's tokens. -/
def rootTo (l : List S33) : Int := (rd_T33 l ((l.length - 1 : Nat) : Int)).f2
def farB (l : List S33) : Bool := decide (0 < l.length ∧ 100 < rootTo l)
theorem far_f (l : List S33) (hs : Small l) : cavillaw13_far.f l = some (farB l) := by
  have hl := hs.1
  unfold cavillaw13_far.f farB rootTo
  by_cases c : 0 < l.length
  · have w : wrap64 ((l.length : Int) - 1) = ((l.length - 1 : Nat) : Int) := by
      rw [w64_id (by omega) (by omega)]
      omega
    rw [if_pos (by omega), w, if_pos (by omega), if_pos (by omega)]
    congr 1
    exact decide_eq_decide.2 ⟨fun h => ⟨c, h⟩, fun h => h.2⟩
  · rw [if_neg (by omega), decide_eq_false (fun h => c h.1)]
theorem looks_same (x : List Int) (hx : x.length ≤ 1000) : ∀ (d i : Nat), i + d = x.length → Ev (fun k => cavillaw13_TreeLooks.l1 k x x (x.length : Int) (i : Int)) true
  | 0, i, h => by
    refine evNext (tworks_ev.bind (f := fun _ t => some t) (Ev.now _)) fun k => ?_
    simp only [cavillaw13_TreeLooks.l1]
    rw [if_neg (by omega)]
  | d + 1, i, h => by
    refine evNext (looks_same x hx d (i + 1) (by omega)) fun k => ?_
    simp only [cavillaw13_TreeLooks.l1]
    rw [if_pos (by omega), if_pos (by omega), if_pos (by omega), if_pos (by omega), if_pos trivial, w64_succ (n := 2000) (by omega) (by omega)]
theorem own_len (l : List S33) {t : Int} (hf : Fine l t) (ht : t ≤ 100) (i : Nat) (hi : i < l.length) : (ownOf l l[i]).length ≤ 1000 := by
  obtain ⟨⟨_, _, h1, h2, h3⟩, _⟩ := hf.head i hi
  unfold ownOf ownL
  refine Nat.le_trans (List.length_filter_le _ _) ?_
  rw [toks_len]
  omega
theorem looks_own (l : List S33) (hs : Small l) (h : badRoot l = none) (ht : rootTo l ≤ 100) (n : Int) :
    Ev (fun k => cavillaw13_TreeLooks.j2 k n (ownE l n).1 (ownE l n).2 (if n < 0 then true else decide (n ≥ (l.length : Int))) l) true := by
  have hf := fine_of h
  by_cases c : 0 ≤ n ∧ n < l.length
  · obtain ⟨i, rfl⟩ := Int.eq_ofNat_of_zero_le c.1
    have hi : i < l.length := by omega
    have e : ownE l i = (ownOf l l[i], none) := by
      unfold ownE
      rw [if_pos c, rd33_nat l i hi]
    rw [e, if_neg (by omega), decide_eq_false (by omega)]
    refine evNext ((rown_ev l hs hf ht i hi).bind (f := fun k t283 => cavillaw13_TreeLooks.j3 k (ownOf l l[i]) t283 (((ownOf l l[i]).length : Int) != (t283.length : Int))) ?_) fun k => ?_
    · refine evNext (looks_same (ownOf l l[i]) (own_len l hf ht i hi) (ownOf l l[i]).length 0 (by omega)) fun k => ?_
      simp only [cavillaw13_TreeLooks.j3]
      rw [if_neg (by simp)]
      rfl
    · simp only [cavillaw13_TreeLooks.j2]
      rw [if_neg (by simp)]
      rfl
  · have e : ownE l n = ([], some (Er.no 4)) := by
      unfold ownE
      rw [if_neg c]
    have b : (if n < 0 then true else decide (n ≥ (l.length : Int))) = true := by
      split
      · rfl
      · exact decide_eq_true (by omega)
    rw [e, b]
    have hc : Ev (fun k => cavillaw01_Code.f k (some (Er.no 4))) 4 := coded_ev (e := some (Er.no 4)) (c := 4) ⟨.no 4, by omega, by omega⟩
    refine evNext (hc.bind (f := fun k t281 => if t281 = 4 then (if ((([] : List Int).length : Nat) : Int) = 0 then ((cavillaw13_works.f k).bind fun t282 => (some t282)) else (some false)) else (some false)) ?_) fun k => ?_
    · refine evCong (tworks_ev.bind (f := fun _ t => some t) (Ev.now _)) fun k => ?_
      rw [if_pos rfl, if_pos (by simp)]
    · simp only [cavillaw13_TreeLooks.j2]
      rw [if_pos trivial]
theorem looks_loop (l : List S33) (hs : Small l) (h : badRoot l = none) (ht : rootTo l ≤ 100) (n : Int) : ∀ (d i : Nat), i + d = l.length →
    Ev (fun k => cavillaw13_TreeLooks.l0 k n (ownE l n).1 (ownE l n).2 (iarr l.length (par l l.length)) ((iarr l.length (par l l.length)).length : Int) (i : Int) l) true
  | 0, i, hd => by
    refine evNext (looks_own l hs h ht n) fun k => ?_
    simp only [cavillaw13_TreeLooks.l0]
    rw [iarr_len, if_neg (by omega)]
    by_cases c : n < 0
    · rw [if_pos c, if_pos c]
    · rw [if_neg c, if_neg c]
  | d + 1, i, hd => by
    have hl := hs.1
    have hi : i < l.length := by omega
    refine evNext ((rparent_ev l hs i).bind (f := fun k t280 => (if (rd (iarr l.length (par l l.length)) i) = t280 then (cavillaw13_TreeLooks.l0 k n (ownE l n).1 (ownE l n).2 (iarr l.length (par l l.length)) ((iarr l.length (par l l.length)).length : Int) (wrap64 ((i : Int) + 1)) l) else (some false))) ?_) fun k => ?_
    · refine evCong (looks_loop l hs h ht n d (i + 1) (by omega)) fun k => ?_
      rw [iarr_get _ _ _ hi, if_pos (par_eq l (fine_of h) i hi), w64_succ (n := 100) (by omega) (by omega)]
    · simp only [cavillaw13_TreeLooks.l0]
      rw [if_pos (by rw [iarr_len]; omega), if_pos (by omega), if_pos (by rw [iarr_len]; omega)]
theorem TreeLooks (l : List S33) (n : Int) : ∃ k, cavillaw13_TreeLooks.f k l n = some true := by
  have hs := few_small l
  obtain ⟨K1, h1⟩ := few_ev l
  generalize fewOf l = t at hs h1
  obtain ⟨K2, h2⟩ := rsound_ev t hs
  obtain ⟨K3, h3⟩ := tworks_ev
  dsimp only at h1 h2 h3
  by_cases hfar : farB t = true
  · obtain ⟨k, hk⟩ : ∃ k, k = K1 + K2 + K3 := ⟨_, rfl⟩
    refine ⟨k, ?_⟩
    unfold cavillaw13_TreeLooks.f
    rw [h1 k (by omega), Option.bind_some, h2 k (by omega), Option.bind_some, far_f t hs, Option.bind_some, if_pos hfar, h3 k (by omega), Option.bind_some]
  · cases hb : badRoot t with
    | some b =>
      rw [hb] at h2
      obtain ⟨K4, h4⟩ := depth_bad t hs hb
      obtain ⟨K5, h5⟩ := pars_bad t hs hb
      obtain ⟨K6, h6⟩ := own_bad t hs n hb
      obtain ⟨K7, h7⟩ := coded_ev (bad_coded (some b))
      have h8 := bad_off (some b)
      dsimp only at h4 h5 h6 h7
      obtain ⟨k, hk⟩ : ∃ k, k = K1 + K2 + K3 + K4 + K5 + K6 + K7 := ⟨_, rfl⟩
      refine ⟨k, ?_⟩
      have hn : (badR (some b)).1 ≠ 0 := by cases b <;> simp [badR]
      unfold cavillaw13_TreeLooks.f
      rw [h1 k (by omega), Option.bind_some, h2 k (by omega), Option.bind_some, far_f t hs, Option.bind_some, if_neg hfar, h4 k (by omega), Option.bind_some, h5 k (by omega), Option.bind_some, h6 k (by omega), Option.bind_some, if_neg hn]
      show (cavillaw01_Code.f k (badE (some b))).bind _ = _
      rw [h7 k (by omega), Option.bind_some, if_pos rfl, h8, Option.bind_some, if_pos rfl, Option.bind_some, if_pos rfl, Option.bind_some, if_pos rfl, if_pos rfl, if_pos (show wrap64 (((([] : List Int).length : Nat) : Int) + ((([] : List Int).length : Nat) : Int)) = 0 from w64_id (a := 0) (by omega) (by omega)), h3 k (by omega), Option.bind_some]
    | none =>
      have hf := fine_of hb
      have hp := hf.ne
      have hl := hs.1
      have ht : rootTo t ≤ 100 := by
        unfold farB at hfar
        have := of_decide_eq_false (Bool.eq_false_iff.2 hfar)
        omega
      rw [hb] at h2
      obtain ⟨K4, h4⟩ := depth_ev t hs hb
      obtain ⟨K5, h5⟩ := pars_ev t hs hb
      obtain ⟨K6, h6⟩ := own_ev t hs hb ht n
      obtain ⟨K7, h7⟩ := deep_ev t hs hf t.length (t.length - 1) (by omega) (by omega) (by omega)
      have hloop : Ev (fun k => cavillaw13_TreeLooks.j0 k n (iarr t.length (par t t.length)) (ownE t n).1 (ownE t n).2 false t) true := evNext (looks_loop t hs hb ht n t.length 0 (by omega)) fun k => by
        simp only [cavillaw13_TreeLooks.j0]
        rw [if_neg (by simp)]
        rfl
      obtain ⟨K8, h8⟩ := hloop
      dsimp only at h4 h5 h6 h7 h8
      obtain ⟨k, hk⟩ : ∃ k, k = K1 + K2 + K3 + K4 + K5 + K6 + K7 + K8 := ⟨_, rfl⟩
      refine ⟨k, ?_⟩
      have w : wrap64 ((t.length : Int) - 1) = ((t.length - 1 : Nat) : Int) := by
        rw [w64_id (by omega) (by omega)]
        omega
      unfold cavillaw13_TreeLooks.f
      rw [h1 k (by omega), Option.bind_some, h2 k (by omega), Option.bind_some, far_f t hs, Option.bind_some, if_neg hfar, h4 k (by omega), Option.bind_some, h5 k (by omega), Option.bind_some, h6 k (by omega), Option.bind_some, if_pos (show (badR none).1 = 0 from rfl), if_pos (show (none : Option Er).isNone = true from rfl), if_pos (show (none : Option Er).isNone = true from rfl), w, h7 k (by omega), Option.bind_some, if_pos rfl]
      have hlen : (((iarr t.length (par t t.length)).length : Int) != (t.length : Int)) = false := by
        rw [iarr_len]
        simp
      show cavillaw13_TreeLooks.j0 k n (iarr t.length (par t t.length)) (ownE t n).1 (ownE t n).2 (((iarr t.length (par t t.length)).length : Int) != (t.length : Int)) t = _
      rw [hlen]
      exact h8 k (by omega)
end Go.Proofs.YtnpgadfoohjlnaaDoor.Plain
