/- Decode, walk and Check of the layer utf, plain: what they come to. No condition beyond what each lemma says. -/
import Derived.Test.YtnpgadfoohjlnaaDoorU0
import Derived.Test.YtnpgadfoohjlnaaDoorQU3
import Derived.Test.YtnpgadfoohjlnaaDoorQU2
namespace Go.Proofs.YtnpgadfoohjlnaaDoor.Plain
open Go.RowKit Go.Proofs.YtnpgadfoohjlnaaDoorW.PrintWords Go.Proofs.YtnpgadfoohjlnaaDoorW.PrintLast Go.Proofs.YtnpgadfoohjlnaaDoorW.PrintMore Go.Proofs.YtnpgadfoohjlnaaDoor.QU

theorem lead_ev (c : Int) (h0 : 0 ≤ c) (h1 : c ≤ 255) : Ev (fun k => utf_lead.f k c) (leadSize c, leadBits c) := by
  have h : ∀ n : Fin 256, utf_lead.f 5 ((n.val : Nat) : Int) = some (leadSize ((n.val : Nat) : Int), leadBits ((n.val : Nat) : Int)) := by decide +kernel
  obtain ⟨n, rfl⟩ := Int.eq_ofNat_of_zero_le h0
  exact Ev.of (fun k => utf_lead.mono _ k) (h ⟨n, by omega⟩)
theorem valid_f (r : Int) : utf_valid.f r = some (decide (Rune r)) := by
  unfold utf_valid.f
  by_cases a : r ≥ 0
  · rw [if_pos a]
    by_cases b : r ≤ 1114111
    · rw [if_pos b]
      by_cases c : r < 55296
      · rw [if_pos c, decide_eq_true (p := Rune r) ⟨a, b, .inl c⟩]
      · rw [if_neg c]
        by_cases d : r > 57343
        · rw [decide_eq_true d, decide_eq_true (p := Rune r) ⟨a, b, .inr d⟩]
        · rw [decide_eq_false d, decide_eq_false (p := Rune r) (fun h => h.2.2.elim c d)]
    · rw [if_neg b, decide_eq_false (p := Rune r) (fun h => b h.2.1)]
  · rw [if_neg a, decide_eq_false (p := Rune r) (fun h => a h.1)]
theorem least_f (n : Int) : utf_least.f n = some (leastOf n) := by
  unfold utf_least.f leastOf
  repeat' split
  all_goals rfl
/-- The loop over the bytes behind the first one. -/
theorem dec_loop (size : Int) (y : List Int) (hb : Bytes8 y) (hy : y.length ≤ 3) : ∀ (d i : Nat) (r : Int), i + d = y.length → 0 ≤ r → (d = 0 ∨ (d = 1 ∧ r < 33554432) ∨ (d = 2 ∧ r < 524288) ∨ (d = 3 ∧ r < 8192)) →
    Ev (fun k => utf_Decode.l0 k r size y (y.length : Int) (i : Int)) (if (∀ x ∈ y.drop i, cont x) ∧ Rune (runeOf r (y.drop i)) ∧ leastOf size ≤ runeOf r (y.drop i) then (runeOf r (y.drop i), size, none) else (0, 0, some (Er.no 3)))
  | 0, i, r, h, h0, hr => by
    refine evConst fun k => ?_
    simp only [utf_Decode.l0]
    rw [if_neg (by omega), List.drop_of_length_le (by omega), valid_f, Option.bind_some]
    show _ = some (if (∀ x ∈ [], cont x) ∧ Rune r ∧ leastOf size ≤ r then (r, size, none) else (0, 0, some (Er.no 3)))
    by_cases a : Rune r
    · rw [if_pos (decide_eq_true a), least_f, Option.bind_some]
      by_cases b : leastOf size ≤ r
      · rw [if_neg (by omega), if_pos ⟨by simp, a, b⟩]
      · rw [if_pos (by omega), if_neg (fun h => b h.2.2)]
    · rw [if_neg (by simp [a]), if_neg (fun h => a h.2.1)]
  | d + 1, i, r, h, h0, hr => by
    have hi : i < y.length := by omega
    have hc := hb.at i hi
    have hd : y.drop i = y[i] :: y.drop (i + 1) := List.drop_eq_getElem_cons hi
    by_cases a : cont y[i]
    · have e : Go.bits .or .i32 (wrap32 (r * 64)) (wrap32 (Go.bits .and .u8 y[i] 63)) = r * 64 + y[i] % 64 := by
        rw [and_63 _ hc.1 hc.2, w32_id (a := y[i] % 64) (by omega) (by omega), w32_id (by omega) (by omega), or_low _ _ h0 (by omega) (by omega) (by omega)]
      have ih := dec_loop size y hb hy d (i + 1) (r * 64 + y[i] % 64) (by omega) (by omega) (by omega)
      have e2 : (∀ x ∈ y.drop i, cont x) ↔ ∀ x ∈ y.drop (i + 1), cont x := by
        rw [hd, List.forall_mem_cons]
        exact and_iff_right a
      have e3 : runeOf r (y.drop i) = runeOf (r * 64 + y[i] % 64) (y.drop (i + 1)) := by rw [hd]; rfl
      simp only [e2, e3]
      refine evNext ih (fun k => ?_)
      simp only [utf_Decode.l0]
      rw [if_pos (by omega), if_pos (by omega), if_pos (by omega), rd_nat y i hi, if_pos ((cont_iff _ hc.1 hc.2).2 a), e, w64_succ hi (by omega)]
    · rw [if_neg (fun h => a (h.1 _ (by rw [hd]; exact List.mem_cons_self ..)))]
      refine evConst fun k => ?_
      simp only [utf_Decode.l0]
      rw [if_pos (by omega), if_pos (by omega), if_pos (by omega), rd_nat y i hi, if_neg (fun h => a ((cont_iff _ hc.1 hc.2).1 h))]
/-- What Decode comes to. -/
def decode (l : List Int) (at_ : Int) : Int × Int × Option Er :=
  if at_ < 0 ∨ (l.length : Int) ≤ at_ then (0, 0, some (Er.no 4)) else match decHead (l.drop at_.toNat) with
    | some (r, n) => (r, n, none)
    | none => (0, 0, some (Er.no 3))
theorem leadBits_bd (c : Int) (h0 : 0 ≤ c) (h1 : c ≤ 255) : 0 ≤ leadBits c ∧ (leadSize c = 2 → leadBits c < 33554432) ∧ (leadSize c = 3 → leadBits c < 524288) ∧ (leadSize c = 4 → leadBits c < 8192) := by
  unfold leadBits leadSize
  repeat' split
  all_goals omega
theorem dec_mid (l : List Int) (i n : Nat) (c : Int) (hb : Bytes8 l) (hl : l.length ≤ 20000000) (hi : i < l.length) (hn : leadSize c = (n : Int) + 1) (hs : i + n + 1 ≤ l.length) (h3 : n ≤ 3) (b0 : 0 ≤ leadBits c) (hr : n = 0 ∨ (n = 1 ∧ leadBits c < 33554432) ∨ (n = 2 ∧ leadBits c < 524288) ∨ (n = 3 ∧ leadBits c < 8192)) :
    Ev (fun k => utf_Decode.j1 k l (i : Int) (leadBits c) (leadSize c) false) (if (∀ x ∈ (l.drop (i + 1)).take n, cont x) ∧ Rune (runeOf (leadBits c) ((l.drop (i + 1)).take n)) ∧ leastOf (leadSize c) ≤ runeOf (leadBits c) ((l.drop (i + 1)).take n) then (runeOf (leadBits c) ((l.drop (i + 1)).take n), leadSize c, none) else (0, 0, some (Er.no 3))) := by
  have hy : (l.take (i + n + 1)).drop (i + 1) = (l.drop (i + 1)).take n := by
    rw [List.drop_take, show i + n + 1 - (i + 1) = n by omega]
  have hlen : ((l.drop (i + 1)).take n).length = n := by
    rw [List.length_take, List.length_drop]
    omega
  have key := dec_loop (leadSize c) ((l.drop (i + 1)).take n) ((hb.drop _).take _) (by omega) n 0 (leadBits c) (by omega) b0 hr
  rw [List.drop_zero] at key
  have e1 : wrap64 ((i : Int) + 1) = ((i + 1 : Nat) : Int) := w64_succ hi (by omega)
  have e2 : wrap64 ((i : Int) + leadSize c) = ((i + n + 1 : Nat) : Int) := by
    rw [hn, w64_id (by omega) (by omega)]
    omega
  refine evNext key (fun k => ?_)
  simp only [utf_Decode.j1]
  rw [if_neg (by simp), e1, e2, if_pos (by omega), if_pos (by omega), if_pos (by omega), Option.bind_some, Int.toNat_natCast, Int.toNat_natCast, hy]
  rfl
theorem decode_ev (l : List Int) (at_ : Int) (hb : Bytes8 l) (hl : l.length ≤ 20000000) : Ev (fun k => utf_Decode.f k l at_) (decode l at_) := by
  have bad : Ev (fun k => utf_Decode.j0 k l at_ true) (0, 0, some (Er.no 4)) := by
    refine evConst fun k => ?_
    simp only [utf_Decode.j0]
    rw [if_pos trivial]
  unfold decode
  by_cases a : at_ < 0 ∨ (l.length : Int) ≤ at_
  · rw [if_pos a]
    refine evCong bad (fun k => ?_)
    unfold utf_Decode.f
    rcases a with a | a
    · rw [if_pos a]
    · by_cases a2 : at_ < 0
      · rw [if_pos a2]
      · rw [if_neg a2, decide_eq_true a]
  · rw [if_neg a]
    obtain ⟨i, rfl⟩ := Int.eq_ofNat_of_zero_le (a := at_) (by omega)
    have hi : i < l.length := by omega
    rw [Int.toNat_natCast]
    have hc := hb.at i hi
    have hd : l.drop i = l[i] :: l.drop (i + 1) := List.drop_eq_getElem_cons hi
    have hs := leadSize_le l[i]
    have hbd := leadBits_bd l[i] hc.1 hc.2
    rw [hd]
    simp only [decHead]
    obtain ⟨c, hcc⟩ : ∃ c, c = l[i] := ⟨_, rfl⟩
    rw [← hcc] at hc hs hbd ⊢
    have hw : wrap64 ((l.length : Int) - i) = (l.length : Int) - i := w64_id (by omega) (by omega)
    have hl2 : ((l.drop (i + 1)).length : Int) + 1 = (l.length : Int) - i := by
      rw [List.length_drop]
      omega
    rw [hl2]
    refine evCong (g := fun k => utf_Decode.f k l (i : Int)) (f := fun k => utf_Decode.j0 k l (i : Int) false) ?_ (fun k => by unfold utf_Decode.f; rw [if_neg (by omega), decide_eq_false (by omega)])
    refine evNext (f := fun k => (utf_lead.f k c).bind fun b => if b.1 = 0 then utf_Decode.j1 k l (i : Int) b.2 b.1 true else utf_Decode.j1 k l (i : Int) b.2 b.1 (decide ((l.length : Int) - i < b.1))) ?_ (fun k => by simp only [utf_Decode.j0]; rw [if_neg (by simp), if_pos (by omega), if_pos (by omega), rd_nat l i hi, ← hcc, hw])
    refine Ev.bind (f := fun k b => if b.1 = 0 then utf_Decode.j1 k l (i : Int) b.2 b.1 true else utf_Decode.j1 k l (i : Int) b.2 b.1 (decide ((l.length : Int) - i < b.1))) (lead_ev c hc.1 hc.2) ?_
    have bad1 : Ev (fun k => utf_Decode.j1 k l (i : Int) (leadBits c) (leadSize c) true) (0, 0, some (Er.no 3)) := by
      refine evConst fun k => ?_
      simp only [utf_Decode.j1]
      rw [if_pos trivial]
    by_cases z : leadSize c = 0
    · rw [if_pos (.inl z)]
      refine evCong bad1 (fun k => ?_)
      show (if leadSize c = 0 then _ else _) = _
      rw [if_pos z]
    · refine evCong (g := fun k => (if leadSize c = 0 then utf_Decode.j1 k l (i : Int) (leadBits c) (leadSize c) true else utf_Decode.j1 k l (i : Int) (leadBits c) (leadSize c) (decide ((l.length : Int) - i < leadSize c)))) (f := fun k => utf_Decode.j1 k l (i : Int) (leadBits c) (leadSize c) (decide ((l.length : Int) - i < leadSize c))) ?_ (fun k => by rw [if_neg z])
      by_cases s : (l.length : Int) - i < leadSize c
      · rw [if_pos (.inr s), decide_eq_true s]
        exact bad1
      · rw [if_neg (fun h => h.elim z s), decide_eq_false s]
        obtain ⟨n, hn⟩ : ∃ n : Nat, leadSize c = (n : Int) + 1 := ⟨(leadSize c - 1).toNat, by omega⟩
        have ht : (leadSize c - 1).toNat = n := by omega
        rw [ht]
        have key := dec_mid l i n c hb hl hi hn (by omega) (by omega) hbd.1 (by omega)
        by_cases q : (∀ x ∈ (l.drop (i + 1)).take n, cont x) ∧ Rune (runeOf (leadBits c) ((l.drop (i + 1)).take n)) ∧ leastOf (leadSize c) ≤ runeOf (leadBits c) ((l.drop (i + 1)).take n)
        · rw [if_pos q] at key ⊢
          exact key
        · rw [if_neg q] at key ⊢
          exact key
/-- How many runes there are from a place on, and the place behind them. -/
def walkL : Nat → List Int → Int → Int → Int × Int
  | 0, _, m, a => (m, a)
  | f + 1, l, m, a => match decHead l with
    | some (_, n) => walkL f (l.drop n.toNat) (m + 1) (a + n)
    | none => (m, a)
theorem walkL_bd : ∀ (f : Nat) (l : List Int) (m a : Int), a ≤ (walkL f l m a).2 ∧ (walkL f l m a).2 ≤ a + l.length
  | 0, l, m, a => by simp only [walkL]; omega
  | f + 1, l, m, a => by
    simp only [walkL]
    cases h : decHead l with
    | none => dsimp only; omega
    | some p =>
      obtain ⟨r, n⟩ := p
      dsimp only
      have h1 := decHead_size h
      have h2 := walkL_bd f (l.drop n.toNat) (m + 1) (a + n)
      rw [List.length_drop] at h2
      omega
theorem walk_loop (l : List Int) (hb : Bytes8 l) (hl : l.length ≤ 20000000) : ∀ (f i : Nat) (m : Int), i ≤ l.length → l.length ≤ i + f → 0 ≤ m → m ≤ i → Ev (fun k => utf_walk.l0 k l m (i : Int)) (walkL f (l.drop i) m (i : Int))
  | 0, i, m, hi, hf, m0, m1 => by
    refine evConst fun k => ?_
    simp only [utf_walk.l0, walkL]
    rw [if_neg (by omega)]
  | f + 1, i, m, hi, hf, m0, m1 => by
    by_cases c : i < l.length
    · have hd := decode_ev l (i : Int) hb hl
      unfold decode at hd
      rw [if_neg (by omega), Int.toNat_natCast] at hd
      refine evNext (f := fun k => (utf_Decode.f k l (i : Int)).bind fun b => if b.2.2.isNone = true then utf_walk.l0 k l (wrap64 (m + 1)) (wrap64 ((i : Int) + b.2.1)) else some (m, (i : Int))) ?_ (fun k => by simp only [utf_walk.l0]; rw [if_pos (by omega)])
      refine Ev.bind (f := fun k b => if b.2.2.isNone = true then utf_walk.l0 k l (wrap64 (m + 1)) (wrap64 ((i : Int) + b.2.1)) else some (m, (i : Int))) hd ?_
      simp only [walkL]
      cases h : decHead (l.drop i) with
      | none => exact Ev.now _
      | some p =>
        obtain ⟨r, n⟩ := p
        have h1 := decHead_size h
        rw [List.length_drop] at h1
        obtain ⟨j, rfl⟩ := Int.eq_ofNat_of_zero_le (a := n) (by omega)
        have ih := walk_loop l hb hl f (i + j) (m + 1) (by omega) (by omega) (by omega) (by omega)
        have e1 : wrap64 (m + 1) = m + 1 := w64_id (by omega) (by omega)
        have e2 : wrap64 ((i + j : Nat) : Int) = ((i + j : Nat) : Int) := w64_id (by omega) (by omega)
        dsimp only
        rw [List.drop_drop, Int.toNat_natCast, ← Int.natCast_add]
        refine evCong ih (fun k => ?_)
        rw [e1, e2]
        rfl
    · refine evConst fun k => ?_
      simp only [utf_walk.l0, walkL]
      rw [if_neg (by omega), List.drop_of_length_le (by omega)]
      rfl
theorem walk_ev (l : List Int) (hb : Bytes8 l) (hl : l.length ≤ 20000000) : Ev (fun k => utf_walk.f k l) (walkL l.length l 0 0) := walk_loop l hb hl l.length 0 0 (by omega) (by omega) (by omega) (by omega)
/-- What Check comes to. -/
def checkOf (l : List Int) : Option Er := if 16777216 < l.length then some (.no 2) else if (walkL l.length l 0 0).2 < l.length then some (.at_ (walkL l.length l 0 0).2 (.no 3)) else none
theorem check_ev (l : List Int) (hb : Bytes8 l) : Ev (fun k => utf_Check.f k l) (checkOf l) := by
  unfold checkOf
  by_cases c : 16777216 < l.length
  · rw [if_pos c]
    refine evConst fun k => ?_
    unfold utf_Check.f
    rw [if_pos (by omega)]
  · rw [if_neg c]
    refine evCong (f := fun k => (utf_walk.f k l).bind fun b => if b.2 < (l.length : Int) then some (some (Er.at_ b.2 (Er.no 3))) else some none) ?_ (fun k => by unfold utf_Check.f; rw [if_neg (by omega)])
    refine Ev.bind (f := fun k b => if b.2 < (l.length : Int) then some (some (Er.at_ b.2 (Er.no 3))) else some none) (walk_ev l hb (by omega)) ?_
    by_cases d : (walkL l.length l 0 0).2 < (l.length : Int)
    · simp only [if_pos d]
      exact Ev.now _
    · simp only [if_neg d]
      exact Ev.now _
end Go.Proofs.YtnpgadfoohjlnaaDoor.Plain
