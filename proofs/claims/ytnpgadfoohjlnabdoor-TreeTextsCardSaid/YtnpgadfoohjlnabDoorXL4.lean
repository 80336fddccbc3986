/- The law TreeTexts, plain: true for every input. No condition beyond what each lemma says. -/
import Derived.Test.YtnpgadfoohjlnabDoorXL3
import Derived.Test.YtnpgadfoohjlnabDoorQX11
namespace Go.Proofs.YtnpgadfoohjlnabDoor.Plain
open Go.RowKit Go.Proofs.YtnpgadfoohjlnabDoorW.PrintWords Go.Proofs.YtnpgadfoohjlnabDoorW.PrintLast Go.Proofs.YtnpgadfoohjlnabDoorW.PrintMore Go.Proofs.YtnpgadfoohjlnabDoor.QX

/-- The first node that owns a token. -/
def fown (l : List S34) (x : Int) : Nat → Nat → Int
  | 0, _ => -1
  | d + 1, i => if ownsN l i x then (i : Int) else fown l x d (i + 1)
theorem ownsB_N (l : List S34) (i : Nat) (hi : i < l.length) (x : Int) : ownsB l l[i] x = decide (ownsN l i x) := by
  have e := rd33_nat l i hi
  by_cases h : ownsN l i x
  · rw [decide_eq_true h]
    unfold ownsN hasT at h
    rw [e] at h
    unfold ownsB
    rw [if_pos h.1, h.2]
  · rw [decide_eq_false h]
    unfold ownsB
    split
    · rename_i c
      refine Bool.eq_false_iff.2 fun hn => h ?_
      unfold ownsN hasT
      rw [e]
      exact ⟨c, hn⟩
    · rfl
theorem owner_loop (l : List S34) (hs : Small l) {t : Int} (hf : Fine l t) (x : Int) : ∀ (d i : Nat), i + d = l.length → Ev (fun n => cavilref13_Owner.l0 n x (i : Int) l) (fown l x d i)
  | 0, i, h => by
    refine evConst fun n => ?_
    simp only [cavilref13_Owner.l0]
    rw [if_neg (by omega)]
    rfl
  | d + 1, i, h => by
    have hl := hs.1
    have hi : i < l.length := by omega
    refine evNext ((owns_ev l hs hf i hi x).bind (f := fun n t204 => (if t204 = true then (some (i : Int)) else (cavilref13_Owner.l0 n x (wrap64 ((i : Int) + 1)) l))) ?_) fun n => ?_
    · rw [ownsB_N l i hi, fown]
      by_cases c : ownsN l i x
      · rw [if_pos c]
        exact evCong (Ev.now _) fun n => if_pos (decide_eq_true c)
      · rw [if_neg c]
        refine evCong (owner_loop l hs hf x d (i + 1) (by omega)) fun n => ?_
        rw [if_neg (by simp [c]), w64_succ (n := 100) (by omega) (by omega)]
    · simp only [cavilref13_Owner.l0]
      rw [if_pos (by omega)]
theorem owner_ev (l : List S34) (hs : Small l) {t : Int} (hf : Fine l t) (x : Int) : Ev (fun n => cavilref13_Owner.f n l x) (fown l x l.length 0) := by
  refine evCong (owner_loop l hs hf x l.length 0 (by omega)) fun n => ?_
  unfold cavilref13_Owner.f
  rfl
theorem fown_none (l : List S34) (x : Int) : ∀ d i, (∀ q : Nat, i ≤ q → q < i + d → ¬ ownsN l q x) → fown l x d i = -1
  | 0, i, _ => rfl
  | d + 1, i, h => by
    rw [fown, if_neg (h i (by omega) (by omega))]
    exact fown_none l x d (i + 1) fun q h1 h2 => h q (by omega) (by omega)
theorem fown_at (l : List S34) {t : Int} (hf : Fine l t) (x : Int) (p : Nat) (hp : ownsN l p x) : ∀ d i, i ≤ p → p < i + d → i + d ≤ l.length → fown l x d i = (p : Int)
  | 0, i, h, h2, _ => by omega
  | d + 1, i, h, h2, h3 => by
    rw [fown]
    by_cases c : ownsN l i x
    · rw [if_pos c, hf.uniq x i p (by omega) (by omega) c hp]
    · rw [if_neg c]
      have : i ≠ p := fun e => c (by rw [e]; exact hp)
      exact fown_at l hf x p hp d (i + 1) (by omega) (by omega) (by omega)
theorem fown_ow (l : List S34) {t : Int} (hf : Fine l t) (x : Nat) : fown l x l.length 0 = ow l l.length x := by
  by_cases c : ∃ p : Nat, p < l.length ∧ ownsN l p x
  · obtain ⟨p, h1, h2⟩ := c
    rw [fown_at l hf x p h2 _ _ (by omega) (by omega) (by omega), ow_at l hf x p h2 _ h1 (Nat.le_refl _)]
  · rw [fown_none l x _ _ fun q _ hq ho => c ⟨q, by omega, ho⟩, ow_none l x _ fun q hq ho => c ⟨q, hq, ho⟩]
theorem ow_cases (l : List S34) (x : Nat) : ∀ i, ow l i x = -1 ∨ 0 ≤ ow l i x
  | 0 => .inl rfl
  | i + 1 => by
    rw [ow]
    split
    · exact .inr (by omega)
    · exact ow_cases l x i
/-- What tree.At comes to. -/
def atE (l : List S34) (m : Nat) (x : Int) : Int × Option Er := if 0 ≤ x ∧ x < m ∧ 0 ≤ ow l l.length x.toNat then (ow l l.length x.toNat, none) else (0, some (Er.no 4))
abbrev atTail (x : Int) (_ : Nat) (bt190 : List Int × Option Er) : Option (Int × Option Er) := (if bt190.2.isNone = true then (if x < 0 then (some (0, some (Er.no 4))) else (if x ≥ (bt190.1.length : Int) then (some (0, some (Er.no 4))) else (if 0 ≤ x then (if x < (bt190.1.length : Int) then (if (rd bt190.1 x) < 0 then (some (0, some (Er.no 4))) else (some (rd bt190.1 x, none))) else (none)) else (none)))) else (some (0, some (bt190.2.getD (Er.no 0)))))
theorem at_bad (l : List S34) (hs : Small l) (x : Int) {b : Option Nat} (h : badRoot l = some b) : Ev (fun k => tree_At.f k l x) (0, badE (some b)) := by
  unfold tree_At.f
  refine (owners_bad l hs h).bind (f := atTail x) ?_
  refine evCong (Ev.now _) fun k => ?_
  cases b <;> rfl
theorem at_ev (l : List S34) (hs : Small l) (h : badRoot l = none) (m : Nat) (hm : (rd_T34 l ((l.length - 1 : Nat) : Int)).f2 = (m : Int)) (ht : m ≤ 100) (x : Int) : Ev (fun k => tree_At.f k l x) (atE l m x) := by
  unfold tree_At.f
  refine (owners_ev l hs h m hm ht).bind (f := atTail x) ?_
  refine evCong (Ev.now _) fun k => ?_
  unfold atTail atE
  rw [if_pos (show (none : Option Er).isNone = true from rfl), iarr_len]
  by_cases c0 : x < 0
  · rw [if_pos c0, if_neg (fun h => by omega)]
  · rw [if_neg c0]
    by_cases c1 : x ≥ (m : Int)
    · rw [if_pos c1, if_neg (fun h => by omega)]
    · obtain ⟨n, rfl⟩ := Int.eq_ofNat_of_zero_le (show 0 ≤ x by omega)
      rw [if_neg c1, if_pos (by omega), if_pos (by omega), iarr_get _ _ _ (show n < m by omega), Int.toNat_natCast]
      rcases ow_cases l n l.length with e | e
      · rw [e, if_pos (by omega), if_neg (fun h => by omega)]
      · rw [if_neg (by omega), if_pos ⟨by omega, by omega, e⟩]
theorem texts_j1 (l : List S34) (hs : Small l) {t : Int} (hf : Fine l t) (ht : t ≤ 100) (r : Int × Option Er) (k : Int) (h : (k < 0 ∧ r = (0, some (Er.no 4))) ∨ (¬ k < 0 ∧ r = (k, none))) :
    Ev (fun n => cavillaw13_TreeTexts.j1 n (bs (txtT l l.length ((l.length - 1 : Nat) : Int))) none r.1 r.2 ((l.length - 1 : Nat) : Int) k l) true := by
  have hp := hf.ne
  have tail : Ev (fun n => ((cavilref13_Text.f n l ((l.length - 1 : Nat) : Int)).bind fun t265 => (if (bs (txtT l l.length ((l.length - 1 : Nat) : Int))).toList = t265.toList then ((cavillaw13_works.f n).bind fun t266 => (some t266)) else (some false)))) true :=
    (rtext_ev l hs hf ht (l.length - 1) (by omega)).bind (f := fun n t265 => (if (bs (txtT l l.length ((l.length - 1 : Nat) : Int))).toList = t265.toList then ((cavillaw13_works.f n).bind fun t266 => (some t266)) else (some false))) (evCong (tworks_ev.bind (f := fun _ t => some t) (Ev.now _)) fun n => if_pos rfl)
  rcases h with ⟨h, rfl⟩ | ⟨h, rfl⟩
  · have hc : Ev (fun n => cavillaw01_Code.f n (some (Er.no 4))) 4 := coded_ev (e := some (Er.no 4)) (c := 4) ⟨.no 4, by omega, by omega⟩
    refine evNext (hc.bind (f := fun n t263 => (if t263 = 4 then (if (0 : Int) = 0 then (if (none : Option Er).isNone = true then ((cavilref13_Text.f n l ((l.length - 1 : Nat) : Int)).bind fun t265 => (if (bs (txtT l l.length ((l.length - 1 : Nat) : Int))).toList = t265.toList then ((cavillaw13_works.f n).bind fun t266 => (some t266)) else (some false))) else (some false)) else (some false)) else (some false))) ?_) fun n => ?_
    · refine evCong tail fun n => ?_
      rw [if_pos rfl, if_pos rfl, if_pos (show (none : Option Er).isNone = true from rfl)]
    · simp only [cavillaw13_TreeTexts.j1]
      rw [if_pos h]
  · refine evNext tail fun n => ?_
    simp only [cavillaw13_TreeTexts.j1]
    rw [if_neg h, if_pos (show (none : Option Er).isNone = true from rfl), if_pos trivial, if_pos (show (none : Option Er).isNone = true from rfl)]
theorem TreeTexts (l : List S34) (x : Int) : ∃ k, cavillaw13_TreeTexts.f k l x = some true := by
  have hs := few_small l
  obtain ⟨K1, h1⟩ := few_ev l
  generalize fewOf l = t at hs h1
  obtain ⟨K2, h2⟩ := rsound_ev t hs
  obtain ⟨K3, h3⟩ := tworks_ev
  dsimp only at h1 h2 h3
  by_cases hfar : farB t = true
  · obtain ⟨k, hk⟩ : ∃ k, k = K1 + K2 + K3 := ⟨_, rfl⟩
    refine ⟨k, ?_⟩
    unfold cavillaw13_TreeTexts.f
    rw [h1 k (by omega), Option.bind_some, far_f t hs, Option.bind_some, if_pos hfar, h3 k (by omega), Option.bind_some]
  · cases hb : badRoot t with
    | some b =>
      rw [hb] at h2
      obtain ⟨K4, h4⟩ := text_bad t hs hb
      obtain ⟨K5, h5⟩ := at_bad t hs x hb
      obtain ⟨K7, h7⟩ := coded_ev (bad_coded (some b))
      dsimp only at h4 h5 h7
      obtain ⟨k, hk⟩ : ∃ k, k = K1 + K2 + K3 + K4 + K5 + K7 := ⟨_, rfl⟩
      refine ⟨k, ?_⟩
      have hn : (badR (some b)).1 ≠ 0 := by cases b <;> simp [badR]
      unfold cavillaw13_TreeTexts.f
      rw [h1 k (by omega), Option.bind_some, far_f t hs, Option.bind_some, if_neg hfar, h2 k (by omega), Option.bind_some, h4 k (by omega), Option.bind_some, h5 k (by omega), Option.bind_some, if_neg hn]
      show (cavillaw01_Code.f k (badE (some b))).bind _ = _
      rw [h7 k (by omega), Option.bind_some, if_pos rfl, Option.bind_some, if_pos rfl]
      show (if (⟨#[]⟩ : ByteArray).toList = ([] : List UInt8) then (if (0 : Int) = 0 then ((cavillaw13_works.f k).bind fun t260 => (some t260)) else (some false)) else (some false)) = _
      rw [if_pos (by rw [ByteArray.toList_eq]), if_pos rfl, h3 k (by omega), Option.bind_some]
    | none =>
      have hf := fine_of hb
      have hp := hf.ne
      have hl := hs.1
      have ht : rootTo t ≤ 100 := by
        unfold farB at hfar
        have := of_decide_eq_false (Bool.eq_false_iff.2 hfar)
        omega
      have h0 := (hf.head (t.length - 1) (by omega)).1
      rw [← rd33_nat t (t.length - 1) (by omega)] at h0
      obtain ⟨m, hm⟩ := Int.eq_ofNat_of_zero_le (show 0 ≤ (rd_T34 t ((t.length - 1 : Nat) : Int)).f2 from Int.le_trans h0.2.2.1 h0.2.2.2.1)
      have hm1 : m ≤ 100 := by
        unfold rootTo at ht
        omega
      rw [hb] at h2
      obtain ⟨K4, h4⟩ := text_ev t hs hb ht
      obtain ⟨K5, h5⟩ := at_ev t hs hb m hm hm1 x
      have w : wrap64 ((t.length : Int) - 1) = ((t.length - 1 : Nat) : Int) := by
        rw [w64_id (by omega) (by omega)]
        omega
      -- what the document's owner comes to
      have fin : ∃ K, ∀ k, K ≤ k → (if x ≥ 0 then cavillaw13_TreeTexts.j0 k x (bs (txtT t t.length ((t.length - 1 : Nat) : Int))) none (atE t m x).1 (atE t m x).2 ((t.length - 1 : Nat) : Int) (-1) (decide (x < (m : Int))) t else cavillaw13_TreeTexts.j0 k x (bs (txtT t t.length ((t.length - 1 : Nat) : Int))) none (atE t m x).1 (atE t m x).2 ((t.length - 1 : Nat) : Int) (-1) false t) = some true := by
        have out : ¬ (0 ≤ x ∧ x < m) → Ev (fun k => cavillaw13_TreeTexts.j0 k x (bs (txtT t t.length ((t.length - 1 : Nat) : Int))) none (atE t m x).1 (atE t m x).2 ((t.length - 1 : Nat) : Int) (-1) false t) true := fun c => by
          have e : atE t m x = (0, some (Er.no 4)) := by
            unfold atE
            rw [if_neg (fun h => c ⟨h.1, h.2.1⟩)]
          refine evNext (texts_j1 t hs hf (by omega) (atE t m x) (-1) (.inl ⟨by omega, e⟩)) fun k => ?_
          simp only [cavillaw13_TreeTexts.j0]
          rw [if_neg (by simp)]
        by_cases c0 : x ≥ 0
        · by_cases c1 : x < (m : Int)
          · obtain ⟨n, rfl⟩ := Int.eq_ofNat_of_zero_le c0
            have ho := fown_ow t hf n
            have e : (fown t n t.length 0 < 0 ∧ atE t m n = (0, some (Er.no 4))) ∨ (¬ fown t n t.length 0 < 0 ∧ atE t m n = (fown t n t.length 0, none)) := by
              unfold atE
              rw [Int.toNat_natCast, ho]
              rcases ow_cases t n t.length with e | e
              · exact .inl ⟨by omega, if_neg (fun h => by omega)⟩
              · exact .inr ⟨by omega, if_pos ⟨by omega, by omega, e⟩⟩
            obtain ⟨K, h⟩ : Ev (fun k => cavillaw13_TreeTexts.j0 k n (bs (txtT t t.length ((t.length - 1 : Nat) : Int))) none (atE t m n).1 (atE t m n).2 ((t.length - 1 : Nat) : Int) (-1) true t) true := by
              refine evNext ((owner_ev t hs hf n).bind (f := fun k t262 => (cavillaw13_TreeTexts.j1 k (bs (txtT t t.length ((t.length - 1 : Nat) : Int))) none (atE t m n).1 (atE t m n).2 ((t.length - 1 : Nat) : Int) t262 t)) (texts_j1 t hs hf (by omega) (atE t m n) _ e)) fun k => ?_
              simp only [cavillaw13_TreeTexts.j0]
              rw [if_pos trivial]
            refine ⟨K, fun k hk => ?_⟩
            rw [if_pos c0, decide_eq_true c1]
            exact h k hk
          · obtain ⟨K, h⟩ := out (fun h => c1 h.2)
            refine ⟨K, fun k hk => ?_⟩
            rw [if_pos c0, decide_eq_false c1]
            exact h k hk
        · obtain ⟨K, h⟩ := out (fun h => c0 h.1)
          refine ⟨K, fun k hk => ?_⟩
          rw [if_neg c0]
          exact h k hk
      obtain ⟨K6, h6⟩ := fin
      dsimp only at h4 h5
      obtain ⟨k, hk⟩ : ∃ k, k = K1 + K2 + K3 + K4 + K5 + K6 := ⟨_, rfl⟩
      refine ⟨k, ?_⟩
      have h6k := h6 k (by omega)
      unfold cavillaw13_TreeTexts.f
      rw [h1 k (by omega), Option.bind_some, far_f t hs, Option.bind_some, if_neg hfar, h2 k (by omega), Option.bind_some, h4 k (by omega), Option.bind_some, h5 k (by omega), Option.bind_some, if_pos (show (badR none).1 = 0 from rfl), w, hm]
      by_cases c0 : x ≥ 0
      · rw [if_pos c0] at h6k ⊢
        rw [if_pos (by omega), if_pos (by omega)]
        exact h6k
      · rw [if_neg c0] at h6k ⊢
        exact h6k
end Go.Proofs.YtnpgadfoohjlnabDoor.Plain
