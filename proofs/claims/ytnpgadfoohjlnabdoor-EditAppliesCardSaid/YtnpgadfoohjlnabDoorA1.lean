/- EditApplies, plain: Check and Apply agree with the document's for every file and every list of edits. No condition beyond that the elements are bytes. -/
import Derived.Test.YtnpgadfoohjlnabDoorG1
import Derived.Test.YtnpgadfoohjlnabDoorV4
import Derived.Test.YtnpgadfoohjlnabDoorQE6
import Derived.Test.YtnpgadfoohjlnabDoorQE7
import Derived.Test.YtnpgadfoohjlnabDoorQE10
namespace Go.Proofs.YtnpgadfoohjlnabDoor.Plain
open Go.RowKit Go.Proofs.YtnpgadfoohjlnabDoorW.PrintWords Go.Proofs.YtnpgadfoohjlnabDoorW.PrintLast Go.Proofs.YtnpgadfoohjlnabDoorW.PrintMore Go.Proofs.YtnpgadfoohjlnabDoor.QE

theorem boundOf_eq (l : List Int) (a : Int) : boundOf l a = decide (isBound l a) := rfl
theorem rboundE {b : List Int} (h : Bytes8 b) (a : Int) : cavilref01_Boundary.f b a = some (boundOf b a) := rbound_f h a
/-- The document's pair of an error: its number, and the edit's. -/
def errPair : Option Er → Int × Int
  | some (.at_ o (.no c)) => (c, o)
  | some (.no c) => (c, -1)
  | _ => (0, -1)
theorem rcheck_zero (l : List Int) : ((checkOf l).isNone = true ↔ (rcheckOf l).1 = 0) := by
  unfold checkOf rcheckOf chkRes
  split
  · simp
  · split <;> simp
theorem rchk4_loop (b : List Int) (l : List S76) (hb : Bytes8 b) (hl : l.length ≤ 20000000) (hs : ∀ x ∈ l, x.f2.size ≤ 9223372036854775807) : ∀ (d i : Nat), i + d = l.length → Ev (fun k => cavilref04_Check.l0 k b l (i : Int)) (errPair (chkFrom b l d i))
  | 0, i, h => by
    refine evConst fun k => ?_
    simp only [cavilref04_Check.l0, chkFrom]
    rw [if_neg (by omega)]
    rfl
  | d + 1, i, h => by
    have hi : i < l.length := by omega
    have ih := rchk4_loop b l hb hl hs d (i + 1) (by omega)
    have hz := hs _ (List.getElem_mem hi)
    have j2 : ∀ c : Bool, (c = true → Ev (fun k => cavilref04_Check.j2 k b l (i : Int) c) (4, (i : Int))) ∧ (c = false → Ev (fun k => cavilref04_Check.j2 k b l (i : Int) c) (if (checkOf (bytesOf l[i].f2)).isNone = true then errPair (chkFrom b l d (i + 1)) else (3, (i : Int)))) := by
      intro c
      constructor
      · rintro rfl
        refine evConst fun k => ?_
        simp only [cavilref04_Check.j2]
        rw [if_pos trivial]
      · rintro rfl
        refine evNext (f := fun k => (cavilref01_Check.f k (bytesOf l[i].f2)).bind fun b2 => if b2.1 = 0 then cavilref04_Check.l0 k b l ((i + 1 : Nat) : Int) else some (3, (i : Int))) ?_ (fun k => by simp only [cavilref04_Check.j2]; rw [if_neg (by simp), if_pos (by omega), if_pos (by omega), rdE l i hi, if_pos hz, w64_succ hi (by omega)])
        refine Ev.bind (f := fun k b2 => if b2.1 = 0 then cavilref04_Check.l0 k b l ((i + 1 : Nat) : Int) else some (3, (i : Int))) (rcheck_ev _ (bytes8_of _)) ?_
        by_cases q : (checkOf (bytesOf l[i].f2)).isNone = true
        · rw [if_pos q]
          exact evCong ih (fun k => by rw [if_pos ((rcheck_zero _).1 q)])
        · rw [if_neg q]
          exact evCong (Ev.now _) (fun k => by rw [if_neg (fun e => q ((rcheck_zero _).2 e))])
    have j1t : Ev (fun k => cavilref04_Check.j1 k b l (i : Int) true) (5, (i : Int)) := by
      refine evConst fun k => ?_
      simp only [cavilref04_Check.j1]
      rw [if_pos trivial]
    have j1f : Ev (fun k => cavilref04_Check.j1 k b l (i : Int) false) (if boundOf b l[i].f0 = false ∨ boundOf b l[i].f1 = false then (4, (i : Int)) else if (checkOf (bytesOf l[i].f2)).isNone = true then errPair (chkFrom b l d (i + 1)) else (3, (i : Int))) := by
      cases e0 : boundOf b l[i].f0 with
      | false =>
        rw [if_pos (.inl rfl)]
        refine evNext ((j2 true).1 rfl) (fun k => ?_)
        simp only [cavilref04_Check.j1]
        rw [if_neg (by simp), if_pos (by omega), if_pos (by omega), rdE l i hi, rboundE hb, e0, Option.bind_some, if_neg (by simp)]
      | true =>
        cases e1 : boundOf b l[i].f1 with
        | false =>
          rw [if_pos (.inr rfl)]
          refine evNext ((j2 true).1 rfl) (fun k => ?_)
          simp only [cavilref04_Check.j1]
          rw [if_neg (by simp), if_pos (by omega), if_pos (by omega), rdE l i hi, rboundE hb, e0, Option.bind_some, if_pos rfl, rboundE hb, e1, Option.bind_some]
          rfl
        | true =>
          rw [if_neg (by simp)]
          refine evNext ((j2 false).2 rfl) (fun k => ?_)
          simp only [cavilref04_Check.j1]
          rw [if_neg (by simp), if_pos (by omega), if_pos (by omega), rdE l i hi, rboundE hb, e0, Option.bind_some, if_pos rfl, rboundE hb, e1, Option.bind_some]
          rfl
    have fin : ∀ P : Prop, [Decidable P] → (P ↔ (l[i].f1 < l[i].f0 ∨ (0 < i ∧ (l[i].f0 < (l[i - 1]'(by omega)).f1 ∨ l[i].f0 = (l[i - 1]'(by omega)).f0)))) → Ev (fun k => cavilref04_Check.j1 k b l (i : Int) (decide P)) (errPair (chkFrom b l (d + 1) i)) := by
      intro P _ hP
      simp only [chkFrom, dif_pos hi, oneOf]
      by_cases p : P
      · rw [decide_eq_true p, if_pos (hP.1 p)]
        exact j1t
      · rw [decide_eq_false p, if_neg (fun h => p (hP.2 h))]
        by_cases q : boundOf b l[i].f0 = false ∨ boundOf b l[i].f1 = false
        · rw [if_pos q] at j1f ⊢
          exact j1f
        · rw [if_neg q] at j1f ⊢
          by_cases s : (checkOf (bytesOf l[i].f2)).isNone = true
          · rw [if_pos s] at j1f ⊢
            exact j1f
          · rw [if_neg s] at j1f ⊢
            exact j1f
    by_cases c1 : l[i].f1 < l[i].f0
    · have e : errPair (chkFrom b l (d + 1) i) = (5, (i : Int)) := by
        simp only [chkFrom, dif_pos hi, oneOf]
        rw [if_pos (.inl c1)]
        rfl
      rw [e]
      refine evConst fun k => ?_
      simp only [cavilref04_Check.l0]
      rw [if_pos (by omega), if_pos (by omega), rdE l i hi, if_pos c1]
    · by_cases c2 : 0 < i
      · have hp : i - 1 < l.length := by omega
        have hw : wrap64 ((i : Int) - 1) = ((i - 1 : Nat) : Int) := by
          rw [w64_id (by omega) (by omega)]
          omega
        refine evNext (fin (l[i].f0 < l[i - 1].f1 ∨ l[i].f0 = l[i - 1].f0) ⟨fun h => .inr ⟨c2, h⟩, fun h => h.elim (fun h => absurd h c1) (fun h => h.2)⟩) (fun k => ?_)
        simp only [cavilref04_Check.l0]
        rw [if_pos (by omega), if_pos (by omega), rdE l i hi, if_neg c1, if_pos (by omega), hw, if_pos (by omega), if_pos (by omega), rdE l (i - 1) hp]
        by_cases c3 : l[i].f0 < l[i - 1].f1
        · rw [if_pos c3, decide_eq_true (.inl c3)]
        · rw [if_neg c3]
          congr 1
          by_cases c4 : l[i].f0 = l[i - 1].f0
          · rw [decide_eq_true (.inr c4), c4, beq_self_eq_true]
          · rw [decide_eq_false (fun h => h.elim c3 c4), beq_eq_false_iff_ne.2 c4]
      · refine evNext (fin False ⟨fun h => h.elim, fun h => h.elim c1 (fun h => c2 h.1)⟩) (fun k => ?_)
        simp only [cavilref04_Check.l0]
        rw [if_pos (by omega), if_pos (by omega), rdE l i hi, if_neg c1, if_neg (by omega)]
        rfl
theorem rchk4_ev (b : List Int) (l : List S76) (hb : Bytes8 b) (hl : l.length ≤ 12) (hs : small l) : Ev (fun k => cavilref04_Check.f k b l) (errPair (checkE b l)) := by
  unfold checkE
  rw [if_neg (by omega)]
  refine evCong (rchk4_loop b l hb (by omega) (fun x hx => by have := hs x hx; omega) l.length 0 (by omega)) (fun k => ?_)
  unfold cavilref04_Check.f
  rw [if_neg (by omega)]
  rfl
theorem bytesOf_append (s t : ByteArray) : bytesOf (s ++ t) = bytesOf s ++ bytesOf t := by simp [bytesOf]
theorem bytesOf_extract (s : ByteArray) (i j : Nat) : bytesOf (s.extract i j) = ((bytesOf s).take j).drop i := by simp [bytesOf, List.map_drop, List.map_take, List.drop_take]
theorem app_split (b : List Int) {a m : Int} {r : List S76} (hv : ValidL b.length a r) (h0 : 0 ≤ m) (h1 : m ≤ a) (h2 : a ≤ b.length) : app b 0 r = b.take m.toNat ++ app b m r := by
  cases r with
  | nil => simp only [app, Int.toNat_zero, List.drop_zero, List.take_append_drop]
  | cons x r =>
    obtain ⟨v0, v1, v2, v3⟩ := hv
    simp only [app, Int.toNat_zero, List.drop_zero]
    have e : b.take x.f0.toNat = b.take m.toNat ++ (b.take x.f0.toNat).drop m.toNat := by
      conv => lhs; rw [← List.take_append_drop m.toNat (b.take x.f0.toNat)]
      rw [List.take_take, show min m.toNat x.f0.toNat = m.toNat by omega]
    conv => lhs; rw [e]
    simp only [List.append_assoc]
theorem valid_at {n : Int} : ∀ (i : Nat) (l : List S76) (a : Int), ValidL n a l → i ≤ l.length → ∃ a', a ≤ a' ∧ a' ≤ n ∧ ValidL n a' (l.drop i)
  | 0, l, a, hv, _ => by
    refine ⟨a, by omega, ?_, by rw [List.drop_zero]; exact hv⟩
    cases l with
    | nil => exact hv
    | cons x r => obtain ⟨v0, v1, v2, v3⟩ := hv; omega
  | i + 1, [], a, hv, h => by simp at h
  | i + 1, x :: r, a, hv, h => by
    obtain ⟨v0, v1, v2, v3⟩ := hv
    obtain ⟨a', h1, h2, h3⟩ := valid_at i r x.f1 v3 (by simpa using h)
    exact ⟨a', by omega, h2, h3⟩
set_option maxRecDepth 100000 in
theorem rapp_loop (b : List Int) (l : List S76) (hn : b.length ≤ 300) (hl : l.length ≤ 12) (hs : small l) (hv : ValidL b.length 0 l) : ∀ (i : Nat) (s : ByteArray), i ≤ l.length → bytesOf s = app b 0 (l.drop i) → (s.size : Int) ≤ 1000 - 40 * (i : Int) →
    Ev (fun k => cavilref04_Apply.l0 k l s ((i : Int) - 1)) (app b 0 l, 0, -1)
  | 0, s, hi, hb, hz => by
    rw [List.drop_zero] at hb
    refine evConst fun k => ?_
    simp only [cavilref04_Apply.l0]
    rw [if_neg (by omega), if_pos (by omega), hb]
  | i + 1, s, hi, hb, hz => by
    have hlt : i < l.length := by omega
    obtain ⟨a', g0, g1, g2⟩ := valid_at i l 0 hv (by omega)
    rw [List.drop_eq_getElem_cons hlt] at g2
    obtain ⟨v0, v1, v2, v3⟩ := g2
    have hx := hs _ (List.getElem_mem hlt)
    have hsp := app_split b (m := l[i].f1) v3 (by omega) (by omega) v2
    have hsp0 := app_split b (m := l[i].f0) v3 (by omega) v1 v2
    rw [← hb] at hsp hsp0
    have hlen : ((b.take l[i].f1.toNat).length : Int) = l[i].f1 := by rw [List.length_take]; omega
    have hlen0 : ((b.take l[i].f0.toNat).length : Int) = l[i].f0 := by rw [List.length_take]; omega
    have hsz : (s.size : Int) = ((bytesOf s).length : Int) := by rw [bytesOf_length]
    have hge : l[i].f1 ≤ (s.size : Int) := by
      rw [hsz, hsp, List.length_append]
      omega
    have z1 : (s.extract 0 l[i].f0.toNat).size = l[i].f0.toNat := by
      rw [ByteArray.size_extract]
      omega
    have z2 : (s.extract l[i].f1.toNat s.size).size = s.size - l[i].f1.toNat := by
      rw [ByteArray.size_extract]
      omega
    have z3 : (s.extract 0 l[i].f0.toNat ++ l[i].f2 : ByteArray).size = l[i].f0.toNat + l[i].f2.size := by rw [ByteArray.size_append, z1]
    have z4 : (s.extract 0 l[i].f0.toNat ++ l[i].f2 ++ s.extract l[i].f1.toNat s.size : ByteArray).size = l[i].f0.toNat + l[i].f2.size + (s.size - l[i].f1.toNat) := by rw [ByteArray.size_append, z3, z2]
    have e1 : wrap64 (((i + 1 : Nat) : Int) - 1 - 1) = (i : Int) - 1 := by rw [w64_id (by omega) (by omega)]; omega
    have e0 : ((i + 1 : Nat) : Int) - 1 = (i : Int) := by omega
    have hb2 : bytesOf (s.extract 0 l[i].f0.toNat ++ l[i].f2 ++ s.extract l[i].f1.toNat s.size) = app b 0 (l.drop i) := by
      rw [List.drop_eq_getElem_cons hlt]
      simp only [app, Int.toNat_zero, List.drop_zero]
      rw [bytesOf_append, bytesOf_append, bytesOf_extract, bytesOf_extract, List.drop_zero]
      congr 1
      · congr 1
        rw [hsp0, List.take_append_of_le_length (by omega), List.take_of_length_le (by omega)]
      · rw [List.take_of_length_le (by rw [bytesOf_length]; omega), hsp, List.drop_append_of_le_length (by omega), List.drop_of_length_le (by omega), List.nil_append]
    refine evNext (rapp_loop b l hn hl hs hv i (s.extract 0 l[i].f0.toNat ++ l[i].f2 ++ s.extract l[i].f1.toNat s.size) (by omega) hb2 (by rw [z4]; omega)) (fun k => ?_)
    simp only [cavilref04_Apply.l0]
    rw [e0] at e1 ⊢
    rw [if_pos (by omega), if_pos (by omega), if_pos (by omega), rdE l i hlt, if_pos (by omega), if_pos (by omega), if_pos (by rw [z1]; omega), if_pos (by omega), if_pos hge, if_pos (by rw [z3, z2]; omega), e1]
theorem rapply_ev (b : List Int) (l : List S76) (hb : Bytes8 b) (hn : b.length ≤ 300) (hl : l.length ≤ 12) (hs : small l) : Ev (fun k => cavilref04_Apply.f k b l) (match checkE b l with | none => (app b 0 l, 0, -1) | some e => ([], (errPair (some e)).1, (errPair (some e)).2)) := by
  unfold cavilref04_Apply.f
  have hlen : wrap64 ((l.length : Int) - 1) = (l.length : Int) - 1 := w64_id (by omega) (by omega)
  refine Ev.bind (f := fun k b2 => if b2.1 = 0 then cavilref04_Apply.l0 k l (strOfNums b) (wrap64 ((l.length : Int) - 1)) else some (([] : List Int), b2.1, b2.2)) (rchk4_ev b l hb hl hs) ?_
  cases e : checkE b l with
  | none =>
    have hv := checkE_valid e
    refine evCong (rapp_loop b l hn hl hs hv l.length (strOfNums b) (by omega) ?_ ?_) (fun k => ?_)
    · rw [List.drop_length, bytes_str hb]
      rfl
    · rw [str_size]
      omega
    · show (if (0 : Int) = 0 then _ else _) = _
      rw [if_pos rfl, hlen]
  | some q =>
    have hne : (errPair (some q)).1 ≠ 0 := by
      have : ∀ (d i : Nat), chkFrom b l d i = some q → (errPair (some q)).1 ≠ 0 := by
        intro d
        induction d with
        | zero => intro i h; cases h
        | succ d ih =>
          intro i h
          simp only [chkFrom] at h
          split at h
          · rename_i hi
            cases e1 : oneOf b l i hi with
            | none => rw [e1] at h; exact ih _ h
            | some z =>
              rw [e1] at h
              cases h
              unfold oneOf at e1
              split at e1
              · cases e1; simp [errPair]
              · split at e1
                · cases e1; simp [errPair]
                · split at e1
                  · cases e1
                  · cases e1; simp [errPair]
          · cases h
      unfold checkE at e
      rw [if_neg (by omega)] at e
      exact this _ _ e
    exact evCong (Ev.now _) (fun k => by rw [if_neg hne])
theorem chk_shape {b : List Int} {l : List S76} {q : Er} : ∀ (d i : Nat), chkFrom b l d i = some q → ∃ (o : Nat) (c : Int), q = .at_ (o : Int) (.no c) ∧ 1 ≤ c ∧ c ≤ 25
  | 0, i, h => by cases h
  | d + 1, i, h => by
    simp only [chkFrom] at h
    split at h
    · rename_i hi
      cases e1 : oneOf b l i hi with
      | none => rw [e1] at h; exact chk_shape d _ h
      | some z =>
        rw [e1] at h
        cases h
        unfold oneOf at e1
        split at e1
        · cases e1; exact ⟨i, 5, rfl, by omega, by omega⟩
        · split at e1
          · cases e1; exact ⟨i, 4, rfl, by omega, by omega⟩
          · split at e1
            · cases e1
            · cases e1; exact ⟨i, 3, rfl, by omega, by omega⟩
    · cases h
theorem checkE_coded {b : List Int} {l : List S76} (hl : l.length ≤ 12) : Coded (checkE b l) (errPair (checkE b l)).1 ∧ cavillaw01_Off.f (checkE b l) = some (errPair (checkE b l)).2 := by
  cases e : checkE b l with
  | none => exact ⟨rfl, rfl⟩
  | some q =>
    unfold checkE at e
    rw [if_neg (by omega)] at e
    obtain ⟨o, c, rfl, h1, h2⟩ := chk_shape _ _ e
    exact ⟨⟨.at_ _ _, h1, h2⟩, rfl⟩
theorem app_bytes {b : List Int} (hb : Bytes8 b) : ∀ (l : List S76) (a : Int), Bytes8 (app b a l)
  | [], a => by simp only [app]; exact hb.drop _
  | x :: r, a => by
    simp only [app]
    exact (((hb.take _).drop _).append (bytes8_of _)).append (app_bytes hb r x.f1)
theorem EditApplies (b : List Int) (l : List S76) (hb : Bytes8 b) : ∃ k, cavillaw04_EditApplies.f k b l = some true := by
  have hm := mn0 (n := 300) (by omega) b
  have hy : Bytes8 (cap 300 b) := hb.take _
  have hn := cap_len (n := 300) (by omega) b
  have hfl := few_len l
  have hsm := few_small l
  have hcd := checkE_coded (b := cap 300 b) hfl
  obtain ⟨K1, h1⟩ := few_ev l
  obtain ⟨K2, h2⟩ := checkE_ev (cap 300 b) (fewOf l) hy (fun x hx => by have := hsm x hx; omega)
  obtain ⟨K3, h3⟩ := rchk4_ev (cap 300 b) (fewOf l) hy hfl hsm
  obtain ⟨K4, h4⟩ := apply_ev (cap 300 b) (fewOf l) hy (by omega) hfl hsm
  obtain ⟨K5, h5⟩ := rapply_ev (cap 300 b) (fewOf l) hy (by omega) hfl hsm
  obtain ⟨K6, h6⟩ := coded_ev hcd.1
  obtain ⟨K7, h7⟩ := works_ev
  obtain ⟨k, hk⟩ : ∃ k, k = K1 + K2 + K3 + K4 + K5 + K6 + K7 := ⟨_, rfl⟩
  refine ⟨k, ?_⟩
  dsimp only at h1 h2 h3 h4 h5 h6 h7
  unfold cavillaw04_EditApplies.f
  rw [if_pos hm.1, if_pos hm.2, Option.bind_some, h1 k (by omega), Option.bind_some]
  show (edit_Check.f k (cap 300 b) (fewOf l)).bind _ = _
  rw [h2 k (by omega), Option.bind_some]
  show (cavilref04_Check.f k (cap 300 b) (fewOf l)).bind _ = _
  rw [h3 k (by omega), Option.bind_some]
  show (edit_Apply.f k (cap 300 b) (fewOf l)).bind _ = _
  rw [h4 k (by omega), Option.bind_some]
  show (cavilref04_Apply.f k (cap 300 b) (fewOf l)).bind _ = _
  rw [h5 k (by omega), Option.bind_some, h6 k (by omega), Option.bind_some, if_pos rfl, hcd.2, Option.bind_some, if_pos rfl]
  unfold applyOf
  cases e : checkE (cap 300 b) (fewOf l) with
  | none =>
    show (bytes_Equal.f (app (cap 300 b) 0 (fewOf l)) (app (cap 300 b) 0 (fewOf l))).bind _ = _
    have ha := app_bytes hy (fewOf l) 0
    rw [equal_f ha ha, Option.bind_some, if_pos (by simp)]
    show (some (0 : Int)).bind _ = _
    rw [Option.bind_some]
    show (if (0 : Int) = 0 then _ else _) = _
    rw [if_pos rfl]
    show (some (-1 : Int)).bind _ = _
    rw [Option.bind_some]
    show (if (-1 : Int) = -1 then _ else _) = _
    rw [if_pos rfl, h7 k (by omega)]
    rfl
  | some q =>
    rw [e] at hcd h6
    show (bytes_Equal.f [] []).bind _ = _
    have ha : Bytes8 [] := fun x hx => by cases hx
    rw [equal_f ha ha, Option.bind_some, if_pos (by simp), h6 k (by omega), Option.bind_some, if_pos rfl]
    show (cavillaw01_Off.f (some q)).bind _ = _
    rw [hcd.2, Option.bind_some, if_pos rfl, h7 k (by omega)]
    rfl
end Go.Proofs.YtnpgadfoohjlnabDoor.Plain
