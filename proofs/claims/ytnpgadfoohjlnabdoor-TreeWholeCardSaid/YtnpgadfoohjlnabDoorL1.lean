/- The law TreeWhole, plain: true for every input. No condition beyond what each lemma says. -/
import Derived.Test.YtnpgadfoohjlnabDoorT8
import Derived.Test.YtnpgadfoohjlnabDoorQT6
namespace Go.Proofs.YtnpgadfoohjlnabDoor.Plain
open Go.RowKit Go.Proofs.YtnpgadfoohjlnabDoorW.PrintWords Go.Proofs.YtnpgadfoohjlnabDoorW.PrintLast Go.Proofs.YtnpgadfoohjlnabDoorW.PrintMore Go.Proofs.YtnpgadfoohjlnabDoor.QT

theorem par_pos (l : List S34) {t : Int} (hf : Fine l t) (j : Nat) (hj : j < l.length) : par l l.length j = -1 ∨ ∃ p : Nat, par l l.length j = (p : Int) ∧ p < l.length ∧ (j : Int) ∈ (rd_T34 l p).f3 := by
  by_cases c : j + 1 = l.length
  · refine .inl ?_
    rw [par_none l j l.length fun q hq hm => by
      rw [rd33_nat l q hq] at hm
      have := (hf.kid q hq _ hm).2
      omega]
    show (if j + 1 = l.length then (-1 : Int) else 0) = -1
    rw [if_pos c]
  · obtain ⟨p, _, h2, h3, h4⟩ := hf.par j (by omega)
    exact .inr ⟨p, par_at l j p h3 _ h2 h4, h2, h3⟩
theorem whole_par (l : List S34) (hs : Small l) {t : Int} (hf : Fine l t) : ∀ (d i : Nat), i + d = l.length →
    Ev (fun k => cavillaw13_TreeWhole.l3 k (iarr l.length (par l l.length)) none (iarr l.length (par l l.length)) ((iarr l.length (par l l.length)).length : Int) (i : Int) l) true
  | 0, i, h => by
    refine evNext (tworks_ev.bind (f := fun _ t => some t) (Ev.now _)) fun k => ?_
    simp only [cavillaw13_TreeWhole.l3]
    rw [iarr_len, if_neg (by omega), if_pos (show (none : Option Er).isNone = true from rfl), if_pos rfl]
  | d + 1, i, h => by
    have hl := hs.1
    have hi : i < l.length := by omega
    refine evNext (whole_par l hs hf d (i + 1) (by omega)) fun k => ?_
    simp only [cavillaw13_TreeWhole.l3]
    rw [if_pos (by rw [iarr_len]; omega), if_pos (by omega), if_pos (by rw [iarr_len]; omega), iarr_get _ _ _ hi, w64_succ (n := 100) (by omega) (by omega)]
    rcases par_pos l hf i hi with e | ⟨p, e, hp, hm⟩
    · rw [e, if_neg (by omega)]
    · rw [rd33_nat l p hp] at hm
      have hsub := hf.sub p hp i hm
      rw [rd33_nat l i hi] at hsub
      rw [e, if_pos (by omega), if_pos (by omega), if_pos (by omega), if_pos (by omega), rd33_nat l p hp, rd33_nat l i hi, if_neg (by omega), if_neg (by omega)]
theorem whole_seen (l : List S34) (hs : Small l) (hb : badRoot l = none) (m : Nat) (hm : (rd_T34 l ((l.length - 1 : Nat) : Int)).f2 = (m : Int)) (ht : m ≤ 100) (r : S34) (hr : r = rd_T34 l ((l.length - 1 : Nat) : Int)) : ∀ (d i : Nat), i + d = m →
    Ev (fun k => cavillaw13_TreeWhole.l2 k (iarr m (ow l l.length)) (arr m (tot l l.length)) ((arr m (tot l l.length)).length : Int) (i : Int) l r.f0 r.f1 r.f2 r.f3) true
  | 0, i, h => by
    refine evNext ((pars_ev l hs hb).bind (f := fun k bt207 => cavillaw13_TreeWhole.l3 k bt207.1 bt207.2 bt207.1 (bt207.1.length : Int) 0 l) (whole_par l hs (fine_of hb) l.length 0 (by omega))) fun k => ?_
    simp only [cavillaw13_TreeWhole.l2]
    rw [arr_len, if_neg (by omega)]
  | d + 1, i, h => by
    have hl := hs.1
    have hi : i < m := by omega
    have hf := fine_of hb
    have hp := hf.ne
    refine evNext (whole_seen l hs hb m hm ht r hr d (i + 1) (by omega)) fun k => ?_
    simp only [cavillaw13_TreeWhole.l2]
    rw [if_pos (by rw [arr_len]; omega), if_pos (by omega), if_pos (by rw [arr_len]; omega), arr_get _ _ _ hi, iarr_get _ _ _ hi, iarr_len, if_pos (show ((i : Nat) : Int) < ((m : Nat) : Int) by omega), w64_succ (n := 2000) (by omega) (by omega)]
    by_cases c : (i : Int) ≥ r.f1
    · obtain ⟨j, hj, ho⟩ := hf.has (i : Int) (l.length - 1) (by omega) (by rw [← hr] at hm; unfold hasT; rw [← hr]; omega)
      rw [if_pos c, tot_at l hf i j ho _ hj (Nat.le_refl _), ow_at l hf i j ho _ hj (Nat.le_refl _), if_pos (by omega), decide_eq_false (by omega), if_neg (by decide)]
    · have hno : ∀ q : Nat, q < l.length → ¬ ownsN l q i := fun q hq ho => by
        have := hf.root (i : Int) _ q rfl hq ho.1
        unfold hasT at this
        rw [← hr] at this
        omega
      rw [if_neg c, tot_none l i _ hno, ow_none l i _ hno, if_pos (by omega), if_pos (show ((i : Nat) : Int) < ((m : Nat) : Int) by omega), decide_eq_true (by omega), if_neg (by decide)]
theorem whole_inner (l : List S34) (hs : Small l) {t : Int} (hf : Fine l t) (m : Nat) (hm : (rd_T34 l ((l.length - 1 : Nat) : Int)).f2 = (m : Int)) (ht : m ≤ 100) (r : S34) (i : Nat) (hi : i < l.length) (res : Bool)
    (next : Ev (fun k => cavillaw13_TreeWhole.l0 k (iarr m (ow l l.length)) (arr m (tot l (i + 1))) (l.length : Int) (wrap64 ((i : Int) + 1)) l r.f0 r.f1 r.f2 r.f3) res) (hlen : (ownOf l l[i]).length ≤ 1000) : ∀ (d j : Nat) (c : Nat → Nat), j + d = (ownOf l l[i]).length → (∀ q, c q + ((ownOf l l[i]).drop j).count (q : Int) = tot l (i + 1) q) →
    Ev (fun k => cavillaw13_TreeWhole.l1 k (iarr m (ow l l.length)) (arr m c) (i : Int) (l.length : Int) (i : Int) (ownOf l l[i]) ((ownOf l l[i]).length : Int) (j : Int) l r.f0 r.f1 r.f2 r.f3) res
  | 0, j, c, h, hc => by
    have e : c = tot l (i + 1) := funext fun q => by
      have := hc q
      rw [List.drop_of_length_le (by omega), List.count_nil] at this
      exact this
    rw [e]
    refine evNext next fun k => ?_
    simp only [cavillaw13_TreeWhole.l1]
    rw [if_neg (by omega)]
  | d + 1, j, c, h, hc => by
    have hl := hs.1
    have hj : j < (ownOf l l[i]).length := by omega
    have hin := own_in l hf i hi _ (List.getElem_mem hj)
    obtain ⟨n, hn⟩ := Int.eq_ofNat_of_zero_le hin.1
    have e := rd_nat (ownOf l l[i]) j hj
    have ho := (own_mem l i hi _).1 (List.getElem_mem hj)
    have hd : ∀ q : Nat, ((ownOf l l[i]).drop j).count (q : Int) = (if q = n then 1 else 0) + ((ownOf l l[i]).drop (j + 1)).count (q : Int) := fun q => by
      rw [List.drop_eq_getElem_cons hj, List.count_cons, hn, Nat.add_comm]
      congr 1
      by_cases x : q = n
      · rw [if_pos x, x]; simp
      · rw [if_neg x, if_neg (by simp; omega)]
    rw [hn] at ho
    refine evNext (whole_inner l hs hf m hm ht r i hi res next hlen d (j + 1) (fun q => c q + if q = n then 1 else 0) (by omega) (fun q => ?_)) fun k => ?_
    · have := hc q
      rw [hd q] at this
      show c q + (if q = n then 1 else 0) + _ = _
      omega
    · have hcn := hc n
      have hle := tot_le l (i + 1) n
      simp only [cavillaw13_TreeWhole.l1]
      rw [if_pos (by omega), if_pos (by omega), if_pos (by omega), e, if_neg (by omega), iarr_len, if_neg (by omega), if_pos hin.1, if_pos (by omega), hn, iarr_get _ _ n (by omega), ow_at l hf n i ho _ hi (Nat.le_refl _), if_pos rfl, if_pos (by rw [arr_len]; omega), Int.toNat_natCast, arr_get m c n (by omega), w64_id (a := (c n : Int) + 1) (by omega) (by omega), show ((c n : Int) + 1) = ((c n + 1 : Nat) : Int) by omega, arr_set, w64_succ (n := 2000) (by omega) (by omega)]
theorem whole_outer (l : List S34) (hs : Small l) (hb : badRoot l = none) (m : Nat) (hm : (rd_T34 l ((l.length - 1 : Nat) : Int)).f2 = (m : Int)) (ht : m ≤ 100) (r : S34) (hr : r = rd_T34 l ((l.length - 1 : Nat) : Int)) : ∀ (d i : Nat), i + d = l.length →
    Ev (fun k => cavillaw13_TreeWhole.l0 k (iarr m (ow l l.length)) (arr m (tot l i)) (l.length : Int) (i : Int) l r.f0 r.f1 r.f2 r.f3) true
  | 0, i, h => by
    refine evNext (whole_seen l hs hb m hm ht r hr m 0 (by omega)) fun k => ?_
    simp only [cavillaw13_TreeWhole.l0]
    rw [if_neg (by omega), show i = l.length by omega]
    rfl
  | d + 1, i, h => by
    have hl := hs.1
    have hi : i < l.length := by omega
    have hf := fine_of hb
    have ho : ownE l (i : Int) = (ownOf l l[i], none) := by
      unfold ownE
      rw [if_pos (by omega), rd33_nat l i hi]
    have hev := own_ev l hs hb (by omega) (i : Int)
    rw [ho] at hev
    have hlen : (ownOf l l[i]).length ≤ 1000 := by
      obtain ⟨⟨_, _, h1, h2, h3⟩, _⟩ := hf.head i hi
      unfold ownOf ownL
      refine Nat.le_trans (List.length_filter_le _ _) ?_
      rw [toks_len]
      omega
    refine evNext (hev.bind (f := fun k bt195 => if bt195.2.isNone = true then (cavillaw13_TreeWhole.l1 k (iarr m (ow l l.length)) (arr m (tot l i)) (i : Int) (l.length : Int) (i : Int) bt195.1 (bt195.1.length : Int) 0 l r.f0 r.f1 r.f2 r.f3) else (some false)) ?_) fun k => ?_
    · refine evCong (whole_inner l hs hf m hm ht r i hi true ?_ hlen (ownOf l l[i]).length 0 (tot l i) (by omega) fun q => ?_) fun k => if_pos rfl
      · rw [w64_succ (n := 100) (by omega) (by omega)]
        exact whole_outer l hs hb m hm ht r hr d (i + 1) (by omega)
      · rw [List.drop_zero, own_count l i hi]
        rfl
    · simp only [cavillaw13_TreeWhole.l0]
      rw [if_pos (by omega)]
theorem TreeWhole (l : List S34) : ∃ k, cavillaw13_TreeWhole.f k l = some true := by
  have hs := few_small l
  obtain ⟨K1, h1⟩ := few_ev l
  generalize fewOf l = t at hs h1
  obtain ⟨K3, h3⟩ := tworks_ev
  dsimp only at h1 h3
  by_cases hfar : farB t = true
  · obtain ⟨k, hk⟩ : ∃ k, k = K1 + K3 := ⟨_, rfl⟩
    refine ⟨k, ?_⟩
    unfold cavillaw13_TreeWhole.f
    rw [h1 k (by omega), Option.bind_some, far_f t hs, Option.bind_some, if_pos hfar, h3 k (by omega), Option.bind_some]
  · cases hb : badRoot t with
    | some b =>
      obtain ⟨K4, h4⟩ := owners_bad t hs hb
      dsimp only at h4
      obtain ⟨k, hk⟩ : ∃ k, k = K1 + K3 + K4 := ⟨_, rfl⟩
      refine ⟨k, ?_⟩
      unfold cavillaw13_TreeWhole.f
      rw [h1 k (by omega), Option.bind_some, far_f t hs, Option.bind_some, if_neg hfar, h4 k (by omega), Option.bind_some, if_neg (by cases b <;> simp [badE]), if_pos (by simp), h3 k (by omega), Option.bind_some]
    | none =>
      have hf := fine_of hb
      have hp := hf.ne
      have hl := hs.1
      have ht : rootTo t ≤ 100 := by
        unfold farB at hfar
        have := of_decide_eq_false (Bool.eq_false_iff.2 hfar)
        omega
      have h0 := (hf.head (t.length - 1) (by omega)).1
      rw [← rd33_nat t (t.length - 1) (by omega)] at h0
      obtain ⟨m, hm⟩ := Int.eq_ofNat_of_zero_le (show 0 ≤ (rd_T34 t ((t.length - 1 : Nat) : Int)).f2 from Int.le_trans h0.2.2.1 h0.2.2.2.1)
      have hm1 : m ≤ 100 := by
        unfold rootTo at ht
        omega
      obtain ⟨K4, h4⟩ := owners_ev t hs hb m hm hm1
      obtain ⟨r, hr⟩ : ∃ r, r = rd_T34 t ((t.length - 1 : Nat) : Int) := ⟨_, rfl⟩
      obtain ⟨K5, h5⟩ := whole_outer t hs hb m hm hm1 r hr t.length 0 (by omega)
      dsimp only at h4 h5
      obtain ⟨k, hk⟩ : ∃ k, k = K1 + K3 + K4 + K5 := ⟨_, rfl⟩
      refine ⟨k, ?_⟩
      have w : wrap64 ((t.length : Int) - 1) = ((t.length - 1 : Nat) : Int) := by
        rw [w64_id (by omega) (by omega)]
        omega
      have ez : arr m (tot t 0) = List.replicate m (0 : Int) := (arr_zero m).symm
      have := h5 k (by omega)
      unfold cavillaw13_TreeWhole.f
      rw [h1 k (by omega), Option.bind_some, far_f t hs, Option.bind_some, if_neg hfar, h4 k (by omega), Option.bind_some, if_pos (show (none : Option Er).isNone = true from rfl), w, if_pos (by omega), if_pos (by omega), ← hr]
      show (if ((iarr m (ow t t.length)).length : Int) = r.f2 then (if 0 ≤ ((iarr m (ow t t.length)).length : Int) then (if (((iarr m (ow t t.length)).length : Int) : Int).toNat ≤ 35184372088832 then (cavillaw13_TreeWhole.l0 k (iarr m (ow t t.length)) (List.replicate (((iarr m (ow t t.length)).length : Int) : Int).toNat 0) (t.length : Int) 0 t r.f0 r.f1 r.f2 r.f3) else (none)) else (none)) else (some false)) = _
      rw [iarr_len, if_pos (by rw [hr, hm]), if_pos (by omega), if_pos (by omega), Int.toNat_natCast, ← ez]
      exact this
end Go.Proofs.YtnpgadfoohjlnabDoor.Plain
