/- why, plain: the document's numbers (digits by 65536): what Small, Add, Sub and Text come to. No condition beyond what each lemma says. -/
import Derived.Test.YtnpgadfoohjlnabDoorKH1
import Derived.Test.YtnpgadfoohjlnabDoorQK6
import Derived.Test.YtnpgadfoohjlnabDoorQK5
import Derived.Test.YtnpgadfoohjlnabDoorQK4
import Derived.Test.YtnpgadfoohjlnabDoorQK3
namespace Go.Proofs.YtnpgadfoohjlnabDoor.Plain
open Go.RowKit Go.Proofs.YtnpgadfoohjlnabDoorW.PrintWords Go.Proofs.YtnpgadfoohjlnabDoorW.PrintLast Go.Proofs.YtnpgadfoohjlnabDoorW.PrintMore Go.Proofs.YtnpgadfoohjlnabDoor.QK

abbrev V7 := cavilref07_Text.val
abbrev tl7 := cavilref07_trim.tl
def Dig (l : List Int) : Prop := ∀ x ∈ l, 0 ≤ x ∧ x < 65536
def pw (i : Nat) : Int := ((65536 ^ i : Nat) : Int)
theorem pw_succ (i : Nat) : pw (i + 1) = pw i * 65536 := by
  unfold pw
  rw [Nat.pow_succ]
  omega
theorem pw_pos (i : Nat) : 0 < pw i := by
  have := Nat.pow_pos (n := i) (show 0 < 65536 by decide)
  unfold pw
  omega
theorem V7_lt : ∀ l : List Int, Dig l → (V7 l : Int) < pw l.length
  | [], _ => by decide
  | x :: l, h => by
    have h1 := h x (List.mem_cons_self ..)
    have h2 := V7_lt l fun y hy => h y (List.mem_cons_of_mem _ hy)
    rw [List.length_cons, pw_succ]
    show ((x.toNat + 65536 * V7 l : Nat) : Int) < _
    omega
theorem V7_snoc (l : List Int) (x : Int) (hx : 0 ≤ x) : (V7 (l ++ [x]) : Int) = V7 l + pw l.length * x := by
  rw [V7, cavilref07_Text.val_app]
  have e : cavilref07_Text.val [x] = x.toNat := by simp [cavilref07_Text.val]
  rw [e]
  obtain ⟨n, rfl⟩ := Int.eq_ofNat_of_zero_le hx
  unfold pw
  rw [Int.toNat_natCast, Int.natCast_add, Int.natCast_mul]
theorem Dig.snoc {l : List Int} (h : Dig l) {x : Int} (h0 : 0 ≤ x) (h1 : x < 65536) : Dig (l ++ [x]) := fun y hy => by
  rcases List.mem_append.1 hy with hy | hy
  · exact h y hy
  · rw [List.mem_singleton.1 hy]
    exact ⟨h0, h1⟩
theorem Dig.take {l : List Int} (h : Dig l) (n : Nat) : Dig (l.take n) := fun y hy => h y (List.mem_of_mem_take hy)
theorem Dig.rd {l : List Int} (h : Dig l) (i : Nat) (hi : i < l.length) : 0 ≤ rd l i ∧ rd l i < 65536 := h _ (cavilref07_Text.rd_mem l i hi)
/-- A digit, 0 behind the last. -/
def dgt (l : List Int) (i : Nat) : Int := if i < l.length then rd l i else 0
theorem digit_f (l : List Int) (i : Nat) : cavilref07_digit.f l (i : Int) = some (dgt l i) := by
  unfold cavilref07_digit.f dgt
  by_cases h : i < l.length
  · rw [if_pos (by omega), if_pos (by omega), if_pos h]
  · rw [if_neg (by omega), if_neg h]
theorem dgt_range {l : List Int} (h : Dig l) (i : Nat) : 0 ≤ dgt l i ∧ dgt l i < 65536 := by
  unfold dgt
  split
  · exact h.rd i (by assumption)
  · omega
theorem V7_drop {l : List Int} (h : Dig l) (i : Nat) : (V7 (l.drop i) : Int) = dgt l i + 65536 * V7 (l.drop (i + 1)) := by
  unfold dgt
  by_cases hi : i < l.length
  · rw [if_pos hi, List.drop_eq_getElem_cons hi]
    have e : rd l i = l[i] := by simp [rd, hi]
    have := h _ (List.getElem_mem hi)
    rw [e]
    show ((l[i].toNat + 65536 * V7 (l.drop (i + 1)) : Nat) : Int) = _
    omega
  · rw [if_neg hi, List.drop_eq_nil_of_le (by omega), List.drop_eq_nil_of_le (by omega)]
    rfl
/-! trim -/
/-- The number n in digits, with a sign if it is not 0. -/
def Is (p : Bool × List Int) (neg : Bool) (n : Nat) : Prop := Dig p.2 ∧ tl7 p.2 p.2.length = p.2.length ∧ V7 p.2 = n ∧ p.1 = (neg && decide (0 < n))
theorem V7_top {l : List Int} (h : Dig l) {j : Nat} (hj : j < l.length) (hz : rd l j ≠ 0) : pw j ≤ (V7 l : Int) := by
  have e : rd l j = l[j] := by simp [rd, hj]
  have hd := h.rd j hj
  have h1 : l = l.take j ++ l.drop j := (List.take_append_drop j l).symm
  have h2 : (V7 l : Int) = V7 (l.take j) + pw j * V7 (l.drop j) := by
    conv => lhs; rw [h1, V7, cavilref07_Text.val_app, List.length_take, Nat.min_eq_left (by omega)]
    unfold pw
    rw [Int.natCast_add, Int.natCast_mul]
  have h3 := V7_drop h j
  have h4 : dgt l j = rd l j := if_pos hj
  have h5 : (1 : Int) ≤ V7 (l.drop j) := by omega
  have h6 := Int.mul_le_mul_of_nonneg_left h5 (Int.le_of_lt (pw_pos j))
  omega
theorem Is.len {p : Bool × List Int} {neg : Bool} {n : Nat} (h : Is p neg n) (d : Nat) (hn : (n : Int) < pw d) : p.2.length ≤ d := by
  rcases Nat.lt_or_ge d p.2.length with hd | hd
  · exfalso
    obtain ⟨j, hj⟩ : ∃ j, p.2.length = j + 1 := ⟨p.2.length - 1, by omega⟩
    have h1 := V7_top h.1 (j := j) (by omega) (cavilref07_Text.tl_top p.2 p.2.length j (h.2.1.trans hj))
    rw [h.2.2.1] at h1
    have h2 : pw d ≤ pw j := by
      unfold pw
      have := Nat.pow_le_pow_right (show 65536 > 0 by decide) (show d ≤ j by omega)
      omega
    omega
  · exact hd
theorem trim_is (neg : Bool) (l : List Int) (h : Dig l) (hl : l.length ≤ 100) : ∃ p, cavilref07_trim.f neg l = some p ∧ Is p neg (V7 l) := by
  have hle := cavilref07_trim.tl_le l l.length
  have hlen : (l.take (tl7 l l.length)).length = tl7 l l.length := by rw [List.length_take]; exact Nat.min_eq_left hle
  have hv := cavilref07_Text.val_tl l l.length (Nat.le_refl _)
  rw [List.take_length] at hv
  refine ⟨_, if_pos (by omega), h.take _, by rw [hlen]; exact cavilref07_Text.tl_take l l.length (Nat.le_refl _), hv, ?_⟩
  show (neg && decide (0 < tl7 l l.length)) = _
  congr 1
  rcases Nat.eq_zero_or_pos (tl7 l l.length) with e | e
  · have h0 : V7 l = 0 := by rw [V7, ← hv, show cavilref07_trim.tl l l.length = 0 from e]; rfl
    rw [e, h0]
  · obtain ⟨j, hj⟩ : ∃ j, tl7 l l.length = j + 1 := ⟨tl7 l l.length - 1, by omega⟩
    have hj' : cavilref07_trim.tl l l.length = j + 1 := hj
    have h1 := V7_top h (j := j) (by omega) (cavilref07_Text.tl_top l l.length j hj)
    have h2 := pw_pos j
    rw [decide_eq_true e, decide_eq_true (by omega)]
/-! plus, minus, Order -/
theorem tmod_nn {s : Int} (h : 0 ≤ s) : Int.tmod s 65536 = s % 65536 := Int.tmod_eq_emod_of_nonneg h
theorem tdiv_nn {s : Int} (h : 0 ≤ s) : Int.tdiv s 65536 = s / 65536 := Int.tdiv_eq_ediv_of_nonneg h
theorem shift (P A x y : Int) : A + P * x + P * 65536 * y = A + P * (x + 65536 * y) := by rw [Int.mul_add, Int.mul_assoc, Int.add_assoc]
theorem plus_ev (a b : List Int) (ha : Dig a) (hb : Dig b) (la : a.length ≤ 50) (lb : b.length ≤ 50) : ∀ (d : Nat) (out : List Int) (c : Int), out.length + d = max a.length b.length + 1 → Dig out → 0 ≤ c → c ≤ 1 → (d = 0 → c = 0) →
    ∃ r, Ev (fun k => cavilref07_plus.l0 k a b out c (out.length : Int)) r ∧ Dig r ∧ r.length ≤ 51 ∧ (V7 r : Int) = V7 out + pw out.length * (c + V7 (a.drop out.length) + V7 (b.drop out.length))
  | d, out, c, hd, ho, h0, h1, hz => by
    by_cases hgo : out.length < a.length ∨ out.length < b.length ∨ c > 0
    · obtain ⟨d, rfl⟩ : ∃ d', d = d' + 1 := by
        cases d with
        | zero => exfalso; have := hz rfl; omega
        | succ d => exact ⟨d, rfl⟩
      have ra := dgt_range ha out.length
      have rb := dgt_range hb out.length
      obtain ⟨s, hs⟩ : ∃ s, s = dgt a out.length + dgt b out.length + c := ⟨_, rfl⟩
      have e1 : wrap64 (wrap64 (dgt a out.length + dgt b out.length) + c) = s := by rw [hs]; unfold wrap64; omega
      have e2 : wrap64 (s / 65536) = s / 65536 := by unfold wrap64; omega
      have e3 : wrap64 ((out.length : Int) + 1) = ((out ++ [s % 65536]).length : Int) := by rw [List.length_append, List.length_singleton]; unfold wrap64; omega
      obtain ⟨r, hr, hdr, hlr, hvr⟩ := plus_ev a b ha hb la lb d (out ++ [s % 65536]) (s / 65536) (by rw [List.length_append, List.length_singleton]; omega) (ho.snoc (by omega) (by omega)) (by omega) (by omega) (fun hd0 => by
        have h1 : dgt a out.length = 0 := if_neg (by omega)
        have h2 : dgt b out.length = 0 := if_neg (by omega)
        omega)
      have hj : Ev (fun k => cavilref07_plus.j1 k a b out c (out.length : Int) true) r := evNext hr fun k => by
        rw [cavilref07_plus.j1, if_pos rfl, digit_f, Option.bind_some, digit_f, Option.bind_some, if_pos (by omega), e1, tmod_nn (by omega), tdiv_nn (by omega), e2, e3]
      refine ⟨r, evNext hj fun k => ?_, hdr, hlr, ?_⟩
      · rw [cavilref07_plus.l0]
        by_cases c1 : out.length < a.length
        · rw [if_pos (by omega)]
        · rw [if_neg (by omega)]
          by_cases c2 : out.length < b.length
          · rw [if_pos (by omega)]
          · rw [if_neg (by omega), decide_eq_true (show c > 0 by omega)]
      · rw [hvr, V7_snoc out _ (by omega), List.length_append, List.length_singleton, pw_succ]
        have da := V7_drop ha out.length
        have db := V7_drop hb out.length
        have e : c + V7 (a.drop out.length) + V7 (b.drop out.length) = s % 65536 + 65536 * (s / 65536 + V7 (a.drop (out.length + 1)) + V7 (b.drop (out.length + 1))) := by omega
        rw [e]
        exact shift _ _ _ _
    · refine ⟨out, evNext (f := fun k => cavilref07_plus.j1 k a b out c (out.length : Int) false) (evNext (Ev.now out) fun k => ?_) fun k => ?_, ho, by omega, ?_⟩
      · rw [cavilref07_plus.j1, if_neg (by decide)]
      · rw [cavilref07_plus.l0, if_neg (by omega), if_neg (by omega), decide_eq_false (show ¬ c > 0 by omega)]
      · rw [List.drop_eq_nil_of_le (by omega), List.drop_eq_nil_of_le (by omega)]
        have : c = 0 := by omega
        rw [this]
        show (V7 out : Int) = V7 out + pw out.length * (0 + (0 : Nat) + (0 : Nat))
        simp
theorem plus_f (a b : List Int) (ha : Dig a) (hb : Dig b) (la : a.length ≤ 50) (lb : b.length ≤ 50) : ∃ r, Ev (fun k => cavilref07_plus.f k a b) r ∧ Dig r ∧ r.length ≤ 51 ∧ V7 r = V7 a + V7 b := by
  obtain ⟨r, hr, hd, hl, hv⟩ := plus_ev a b ha hb la lb (max a.length b.length + 1) [] 0 (by simp) (fun x hx => by cases hx) (by omega) (by omega) (by omega)
  refine ⟨r, hr, hd, hl, ?_⟩
  have e : (V7 [] : Int) = 0 := rfl
  have e2 : pw ([] : List Int).length = 1 := rfl
  rw [e, e2] at hv
  simp only [List.length_nil, List.drop_zero] at hv
  omega
theorem minus_ev (a b : List Int) (ha : Dig a) (hb : Dig b) (la : a.length ≤ 50) : ∀ (d : Nat) (out : List Int) (c : Int), out.length + d = a.length → Dig out → 0 ≤ c → c ≤ 1 →
    ∃ r c', Ev (fun k => cavilref07_minus.l0 k a b out c (out.length : Int)) r ∧ Dig r ∧ r.length = a.length ∧ 0 ≤ c' ∧ (V7 r : Int) = V7 out + pw out.length * (V7 (a.drop out.length) - V7 (b.drop out.length) - c) + pw a.length * (V7 (b.drop a.length) + c')
  | 0, out, c, hd, ho, h0, h1 => by
    have hl : out.length = a.length := by omega
    refine ⟨out, c, evNext (Ev.now out) fun k => ?_, ho, hl, h0, ?_⟩
    · rw [cavilref07_minus.l0, if_neg (by omega)]
    · rw [hl, List.drop_eq_nil_of_le (Nat.le_refl _), Int.add_assoc, ← Int.mul_add]
      show (V7 out : Int) = V7 out + pw a.length * ((0 : Nat) - V7 (b.drop a.length) - c + (V7 (b.drop a.length) + c))
      rw [show (((0 : Nat) : Int) - V7 (b.drop a.length) - c + (V7 (b.drop a.length) + c)) = 0 by omega, Int.mul_zero, Int.add_zero]
  | d + 1, out, c, hd, ho, h0, h1 => by
    have ra := ha.rd out.length (by omega)
    have ea : dgt a out.length = rd a out.length := if_pos (by omega)
    have rb := dgt_range hb out.length
    obtain ⟨s, hs⟩ : ∃ s, s = rd a out.length - dgt b out.length - c := ⟨_, rfl⟩
    have e1 : wrap64 (wrap64 (rd a out.length - dgt b out.length) - c) = s := by rw [hs]; unfold wrap64; omega
    have da := V7_drop ha out.length
    have db := V7_drop hb out.length
    have step : ∀ (x c2 : Int), x = s + 65536 * c2 → 0 ≤ x → x < 65536 → 0 ≤ c2 → c2 ≤ 1 → (∀ k, cavilref07_minus.l0 (k + 1) a b out c (out.length : Int) = cavilref07_minus.l0 k a b (out ++ [x]) c2 ((out ++ [x]).length : Int)) →
        ∃ r c', Ev (fun k => cavilref07_minus.l0 k a b out c (out.length : Int)) r ∧ Dig r ∧ r.length = a.length ∧ 0 ≤ c' ∧ (V7 r : Int) = V7 out + pw out.length * (V7 (a.drop out.length) - V7 (b.drop out.length) - c) + pw a.length * (V7 (b.drop a.length) + c') := fun x c2 hx x0 x1 c20 c21 hk => by
      obtain ⟨r, c', hr, hdr, hlr, hc', hvr⟩ := minus_ev a b ha hb la d (out ++ [x]) c2 (by rw [List.length_append, List.length_singleton]; omega) (ho.snoc x0 x1) c20 c21
      refine ⟨r, c', evNext hr hk, hdr, hlr, hc', ?_⟩
      rw [hvr, V7_snoc out _ x0, List.length_append, List.length_singleton, pw_succ]
      have e : (V7 (a.drop out.length) : Int) - V7 (b.drop out.length) - c = x + 65536 * (V7 (a.drop (out.length + 1)) - V7 (b.drop (out.length + 1)) - c2) := by omega
      rw [e]
      exact congrArg (· + _) (shift _ _ _ _)
    by_cases hneg : s < 0
    · refine step (s + 65536) 1 (by omega) (by omega) (by omega) (by omega) (by omega) fun k => ?_
      rw [cavilref07_minus.l0, if_pos (by omega), if_pos (by omega), digit_f, Option.bind_some, e1, if_pos hneg, if_pos (by omega), show wrap64 (s + 65536) = s + 65536 by unfold wrap64; omega, show wrap64 ((out.length : Int) + 1) = ((out ++ [s + 65536]).length : Int) by rw [List.length_append, List.length_singleton]; unfold wrap64; omega]
    · refine step s 0 (by omega) (by omega) (by omega) (by omega) (by omega) fun k => ?_
      rw [cavilref07_minus.l0, if_pos (by omega), if_pos (by omega), digit_f, Option.bind_some, e1, if_neg hneg, if_pos (by omega), show wrap64 ((out.length : Int) + 1) = ((out ++ [s]).length : Int) by rw [List.length_append, List.length_singleton]; unfold wrap64; omega]
theorem minus_f (a b : List Int) (ha : Dig a) (hb : Dig b) (la : a.length ≤ 50) (hle : V7 b ≤ V7 a) : ∃ r, Ev (fun k => cavilref07_minus.f k a b) r ∧ Dig r ∧ r.length ≤ 50 ∧ V7 r = V7 a - V7 b := by
  obtain ⟨r, c', hr, hd, hl, hc', hv⟩ := minus_ev a b ha hb la a.length [] 0 (by simp) (fun x hx => by cases hx) (by omega) (by omega)
  refine ⟨r, hr, hd, by omega, ?_⟩
  have e : (V7 [] : Int) = 0 := rfl
  have e2 : pw ([] : List Int).length = 1 := rfl
  rw [e, e2] at hv
  simp only [List.length_nil, List.drop_zero] at hv
  have hlt := V7_lt r hd
  rw [hl] at hlt
  have hp := pw_pos a.length
  have h0 : (V7 (b.drop a.length) : Int) + c' = 0 := by
    rcases Int.lt_or_le 0 ((V7 (b.drop a.length) : Int) + c') with h | h
    · exfalso
      have := Int.mul_le_mul_of_nonneg_left (show (1 : Int) ≤ (V7 (b.drop a.length) : Int) + c' by omega) (Int.le_of_lt hp)
      omega
    · omega
  rw [h0, Int.mul_zero] at hv
  omega
theorem order_loop (a b : List Int) (ha : Dig a) (hb : Dig b) : ∀ (n : Nat), n ≤ a.length → n ≤ b.length → n ≤ 100 → V7 (a.take n) < V7 (b.take n) → Ev (fun k => cavilref07_Order.l0 k a b ((n : Int) - 1)) (-1)
  | 0, _, _, _, h => absurd h (by simp)
  | n + 1, hna, hnb, hn, h => by
    have ea : rd a n = a[n] := by simp [rd, show n < a.length by omega]
    have eb : rd b n = b[n] := by simp [rd, show n < b.length by omega]
    have ra := ha.rd n (by omega)
    have rb := hb.rd n (by omega)
    have va : (V7 (a.take (n + 1)) : Int) = V7 (a.take n) + pw n * rd a n := by
      rw [List.take_add_one, List.getElem?_eq_getElem (by omega), ← ea]
      show (V7 (a.take n ++ [rd a n]) : Int) = _
      rw [V7_snoc _ _ ra.1, List.length_take, Nat.min_eq_left (by omega)]
    have vb : (V7 (b.take (n + 1)) : Int) = V7 (b.take n) + pw n * rd b n := by
      rw [List.take_add_one, List.getElem?_eq_getElem (by omega), ← eb]
      show (V7 (b.take n ++ [rd b n]) : Int) = _
      rw [V7_snoc _ _ rb.1, List.length_take, Nat.min_eq_left (by omega)]
    have e : (((n + 1 : Nat) : Int) - 1) = (n : Int) := by omega
    rw [e]
    by_cases c1 : rd a n < rd b n
    · refine evNext (Ev.now _) fun k => ?_
      rw [cavilref07_Order.l0, if_pos (by omega), if_pos (by omega), if_pos (by omega), if_pos (by omega), if_pos c1]
    · by_cases c2 : rd a n > rd b n
      · exfalso
        have h1 := V7_lt _ (hb.take n)
        rw [List.length_take, Nat.min_eq_left (by omega)] at h1
        have h2 := Int.mul_le_mul_of_nonneg_left (show rd b n + 1 ≤ rd a n by omega) (Int.le_of_lt (pw_pos n))
        rw [Int.mul_add, Int.mul_one] at h2
        omega
      · have e2 : rd a n = rd b n := by omega
        refine evNext (order_loop a b ha hb n (by omega) (by omega) (by omega) (by rw [e2] at va; omega)) fun k => ?_
        rw [cavilref07_Order.l0, if_pos (by omega), if_pos (by omega), if_pos (by omega), if_pos (by omega), if_neg c1, if_neg c2, show wrap64 ((n : Int) - 1) = (n : Int) - 1 by unfold wrap64; omega]
theorem order_f {p q : Bool × List Int} {s t : Bool} {m n : Nat} (hp : Is p s m) (hq : Is q t n) (h : m < n) (hn : (n : Int) < pw 40) : Ev (fun k => cavilref07_Order.f k p.2 q.2) (-1) := by
  have lq := hq.len 40 hn
  have lp := hp.len 40 (by omega)
  have hlen : p.2.length ≤ q.2.length := by
    rcases Nat.lt_or_ge q.2.length p.2.length with hd | hd
    · exfalso
      have h1 := V7_lt q.2 hq.1
      have h2 := hp.len q.2.length (by rw [hq.2.2.1] at h1; omega)
      omega
    · exact hd
  unfold cavilref07_Order.f
  by_cases e : p.2.length = q.2.length
  · have := order_loop p.2 q.2 hp.1 hq.1 p.2.length (Nat.le_refl _) (by omega) (by omega) (by rw [List.take_length, e, List.take_length, hp.2.2.1, hq.2.2.1]; exact h)
    refine evCong this fun k => ?_
    rw [if_pos (by omega), show wrap64 ((p.2.length : Int) - 1) = (p.2.length : Int) - 1 by unfold wrap64; omega]
  · refine evCong (Ev.now _) fun k => ?_
    rw [if_neg (by omega), if_pos (by omega)]
end Go.Proofs.YtnpgadfoohjlnabDoor.Plain
