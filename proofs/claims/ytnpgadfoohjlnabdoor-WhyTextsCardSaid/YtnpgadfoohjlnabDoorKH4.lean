/- why, plain: the document's Step is the demand's text. No condition beyond what each lemma says. -/
import Derived.Test.YtnpgadfoohjlnabDoorKH3
import Derived.Test.YtnpgadfoohjlnabDoorQK5
namespace Go.Proofs.YtnpgadfoohjlnabDoor.Plain
open Go.RowKit Go.Proofs.YtnpgadfoohjlnabDoorW.PrintWords Go.Proofs.YtnpgadfoohjlnabDoorW.PrintLast Go.Proofs.YtnpgadfoohjlnabDoorW.PrintMore Go.Proofs.YtnpgadfoohjlnabDoor.QK

theorem small_loop (x0 : Int) : ∀ (d : Nat) (out : List Int) (m : Int), 0 ≤ m → m < pw d → m ≤ 9223372036854775807 → Dig out → out.length + d ≤ 90 →
    ∃ l, Dig l ∧ l.length ≤ 100 ∧ (V7 l : Int) = V7 out + pw out.length * m ∧ ∀ p, cavilref07_trim.f (decide (x0 < 0)) l = some p → Ev (fun k => cavilref07_Small.l0 k x0 out m) p
  | d, out, m, h0, h1, h2, ho, hl => by
    rcases Int.lt_or_le 0 m with hm | hm
    · obtain ⟨d, rfl⟩ : ∃ d', d = d' + 1 := by
        cases d with
        | zero => exfalso; have : pw 0 = 1 := rfl; omega
        | succ d => exact ⟨d, rfl⟩
      rw [pw_succ] at h1
      obtain ⟨l, hd, hll, hv, hk⟩ := small_loop x0 d (out ++ [m % 65536]) (m / 65536) (by omega) (by have := pw_pos d; omega) (by omega) (ho.snoc (by omega) (by omega)) (by rw [List.length_append, List.length_singleton]; omega)
      refine ⟨l, hd, hll, ?_, fun p hp => evNext (hk p hp) fun k => ?_⟩
      · rw [hv, V7_snoc _ _ (by omega), List.length_append, List.length_singleton, pw_succ, shift]
        rw [show m % 65536 + 65536 * (m / 65536) = m by omega]
      · rw [cavilref07_Small.l0, if_pos hm, if_pos (by omega), tmod_nn (by omega), tdiv_nn (by omega), show wrap64 (m / 65536) = m / 65536 by unfold wrap64; omega]
    · obtain rfl : m = 0 := by omega
      refine ⟨out, ho, by omega, by rw [Int.mul_zero, Int.add_zero], fun p hp => evNext (f := fun _ => some p) (Ev.now p) fun k => ?_⟩
      rw [cavilref07_Small.l0, if_neg (by decide), hp]
      rfl
theorem small_ev (n : Int) (h0 : -9223372036854775807 ≤ n) (h1 : n ≤ 9223372036854775807) : ∃ p, Ev (fun k => cavilref07_Small.f k n) p ∧ Is p (decide (n < 0)) n.natAbs := by
  have hp4 : pw 4 = 18446744073709551616 := by decide
  obtain ⟨l, hd, hl, hv, hk⟩ := small_loop n 4 [] (n.natAbs : Int) (by omega) (by omega) (by omega) (fun x hx => by cases hx) (by decide)
  have e : (V7 [] : Int) = 0 := rfl
  have e2 : pw ([] : List Int).length = 1 := rfl
  rw [e, e2] at hv
  obtain ⟨p, hp, hi⟩ := trim_is (decide (n < 0)) l hd hl
  rw [show V7 l = n.natAbs by omega] at hi
  refine ⟨p, ?_, hi⟩
  unfold cavilref07_Small.f
  by_cases c : n < 0
  · refine evCong (f := fun k => cavilref07_Small.j0 k n [] (n.natAbs : Int)) (evNext (hk p hp) fun k => by rw [cavilref07_Small.j0]) fun k => ?_
    rw [if_pos c, show wrap64 (-n) = (n.natAbs : Int) by unfold wrap64; omega]
  · refine evCong (f := fun k => cavilref07_Small.j0 k n [] (n.natAbs : Int)) (evNext (hk p hp) fun k => by rw [cavilref07_Small.j0]) fun k => ?_
    rw [if_neg c, show (n.natAbs : Int) = n by omega]
theorem small_any (n : Int) (h0 : -9223372036854775808 ≤ n) (h1 : n ≤ 9223372036854775807) : ∃ p, Ev (fun k => cavilref07_Small.f k n) p := by
  by_cases c : n = -9223372036854775808
  · subst c
    exact ⟨(false, []), Ev.of (fun k => cavilref07_Small.mono _ k) (k := 5) (by decide +kernel)⟩
  · obtain ⟨p, hp, _⟩ := small_ev n (by omega) h1
    exact ⟨p, hp⟩
theorem pw50 (n : Nat) (h : n < 1208925819614629174706176) : (n : Int) < pw 5 := by
  have : pw 5 = 1208925819614629174706176 := by decide
  omega
theorem add_same {p q : Bool × List Int} {s t : Bool} {m n : Nat} (hp : Is p s m) (hq : Is q t n) (hm : m < 1208925819614629174706176) (hn : n < 1208925819614629174706176) (he : p.1 = q.1) : ∃ r, Ev (fun k => cavilref07_Add.f k p.1 p.2 q.1 q.2) r ∧ Is r p.1 (m + n) := by
  obtain ⟨l, hl, hd, hll, hv⟩ := plus_f p.2 q.2 hp.1 hq.1 (by have := hp.len 5 (pw50 m hm); omega) (by have := hq.len 5 (pw50 n hn); omega)
  obtain ⟨r, hr, hi⟩ := trim_is p.1 l hd (by omega)
  rw [hv, hp.2.2.1, hq.2.2.1] at hi
  refine ⟨r, ?_, hi⟩
  unfold cavilref07_Add.f
  refine evCong (f := fun k => (cavilref07_plus.f k p.2 q.2).bind fun t => (cavilref07_trim.f p.1 t).bind fun b => some (b.1, b.2)) (Ev.bind (f := fun _ t => (cavilref07_trim.f p.1 t).bind fun b => some (b.1, b.2)) hl ?_) fun k => ?_
  · rw [hr]
    exact Ev.now r
  · rw [if_pos (by rw [he]; simp)]
theorem add_less {p q : Bool × List Int} {s t : Bool} {m n : Nat} (hp : Is p s m) (hq : Is q t n) (hm : m < n) (hn : n < 1208925819614629174706176) (he : p.1 ≠ q.1) : ∃ r, Ev (fun k => cavilref07_Add.f k p.1 p.2 q.1 q.2) r ∧ Is r q.1 (n - m) := by
  have h40 : pw 5 ≤ pw 40 := by decide
  obtain ⟨l, hl, hd, hll, hv⟩ := minus_f q.2 p.2 hq.1 hp.1 (by have := hq.len 5 (pw50 n hn); omega) (by rw [hp.2.2.1, hq.2.2.1]; omega)
  obtain ⟨r, hr, hi⟩ := trim_is q.1 l hd (by omega)
  rw [hv, hp.2.2.1, hq.2.2.1] at hi
  have ho := order_f hp hq hm (by have := pw50 n hn; omega)
  refine ⟨r, ?_, hi⟩
  unfold cavilref07_Add.f
  refine evCong (f := fun k => (cavilref07_Order.f k p.2 q.2).bind fun z => if z ≥ 0 then (cavilref07_minus.f k p.2 q.2).bind fun t => (cavilref07_trim.f p.1 t).bind fun b => some (b.1, b.2) else (cavilref07_minus.f k q.2 p.2).bind fun t => (cavilref07_trim.f q.1 t).bind fun b => some (b.1, b.2))
    (Ev.bind (f := fun k z => if z ≥ 0 then (cavilref07_minus.f k p.2 q.2).bind fun t => (cavilref07_trim.f p.1 t).bind fun b => some (b.1, b.2) else (cavilref07_minus.f k q.2 p.2).bind fun t => (cavilref07_trim.f q.1 t).bind fun b => some (b.1, b.2)) ho ?_) fun k => ?_
  · refine evCong (f := fun k => (cavilref07_minus.f k q.2 p.2).bind fun t => (cavilref07_trim.f q.1 t).bind fun b => some (b.1, b.2)) (Ev.bind (f := fun _ t => (cavilref07_trim.f q.1 t).bind fun b => some (b.1, b.2)) hl ?_) fun k => if_neg (by decide)
    rw [hr]
    exact Ev.now r
  · rw [if_neg (by simp [he])]
theorem sub_ev {p q : Bool × List Int} {t : Bool} {n : Nat} (hq : Is q t n) (hn : n < 1208925819614629174706176) {P : Bool × List Int → Prop} (hadd : ∀ q' : Bool × List Int, Is q' (!q.1) n → ∃ r, Ev (fun k => cavilref07_Add.f k p.1 p.2 q'.1 q'.2) r ∧ P r) : ∃ r, Ev (fun k => cavilref07_Sub.f k p.1 p.2 q.1 q.2) r ∧ P r := by
  obtain ⟨q', hq', hi⟩ := trim_is (!q.1) q.2 hq.1 (by have := hq.len 5 (pw50 n hn); omega)
  rw [hq.2.2.1] at hi
  obtain ⟨r, hr, hP⟩ := hadd q' hi
  refine ⟨r, ?_, hP⟩
  unfold cavilref07_Sub.f
  refine evCong (f := fun k => (cavilref07_Add.f k p.1 p.2 q'.1 q'.2).bind fun b => some (b.1, b.2)) (Ev.bind (f := fun _ b => some (b.1, b.2)) hr (Ev.now r)) fun k => ?_
  rw [hq']
  rfl
theorem text_is {p : Bool × List Int} {s : Bool} {n : Nat} (hp : Is p s n) (hn : n < 18446744073709551616) (hs : p.1 = false) : cavilref07_Text.f p.1 p.2 = some ⟨(Lib.decDigits n).toArray⟩ := by
  unfold cavilref07_Text.f
  have hl := hp.len 5 (pw50 n (by omega))
  rw [if_pos ⟨hp.1, hp.2.1, by omega, by rw [show cavilref07_Text.val p.2 = n from hp.2.2.1]; exact hn⟩, show cavilref07_Text.val p.2 = n from hp.2.2.1, hs, if_neg (fun h => absurd h.1 (by decide))]
  rfl
theorem power_f : cavilref07_Power.f 62 = some (false, [0, 0, 0, 16384]) := by decide +kernel
theorem power_is : Is (false, [0, 0, 0, 16384]) false 4611686018427387904 := ⟨fun x hx => (by simp at hx; omega), by decide +kernel, by decide +kernel, rfl⟩
theorem nil_is : Is (false, []) false 0 := ⟨fun x hx => absurd hx (by simp), rfl, rfl, rfl⟩
/-- -1 less what is below 0. -/
theorem less_one {p : Bool × List Int} {n : Nat} (hp : Is p true n) (h2 : 2 ≤ n) (hn : n < 1208925819614629174706176) : ∃ b, Ev (fun k => cavilref07_Small.f k (-1)) b ∧ ∃ r, Ev (fun k => cavilref07_Sub.f k b.1 b.2 p.1 p.2) r ∧ (Is r false (n - 1) ∧ r.1 = false) := by
  obtain ⟨b, hb, hi⟩ := small_ev (-1) (by omega) (by omega)
  have hb1 : b.1 = true := hi.2.2.2
  have hp1 : p.1 = true := by rw [hp.2.2.2, decide_eq_true (show 0 < n by omega)]; rfl
  refine ⟨b, hb, sub_ev (p := b) hp hn fun q' hq' => ?_⟩
  rw [hp1] at hq'
  have hq1 : q'.1 = false := by rw [hq'.2.2.2]; rfl
  obtain ⟨r, hr, hri⟩ := add_less hi hq' (by show 1 < n; omega) hn (by rw [hb1, hq1]; decide)
  rw [hq1] at hri
  exact ⟨r, hr, hri, by rw [hri.2.2.2]; rfl⟩
theorem rstep_ev (a : Int) (h0 : -9223372036854775808 ≤ a) (h1 : a ≤ 9223372036854775807) : Ev (fun k => cavilref33_Step.f k a) ⟨(stepT a).toArray⟩ := by
  unfold stepT
  by_cases c : a ≥ 0
  · obtain ⟨p, hp, hpi⟩ := small_ev a (by omega) h1
    obtain ⟨q, hq, hqi⟩ := small_ev 1 (by omega) (by omega)
    have hp1 : p.1 = false := by rw [hpi.2.2.2, decide_eq_false (by omega)]; rfl
    have hq1 : q.1 = false := by rw [hqi.2.2.2]; rfl
    obtain ⟨r, hr, hri⟩ := add_same hpi hqi (by omega) (by decide) (hp1.trans hq1.symm)
    have hr1 : r.1 = false := by rw [hri.2.2.2, hp1]; rfl
    have ht := text_is hri (by omega) hr1
    have hl := dec_len (a.natAbs + 1) (by omega)
    rw [if_pos c, show (a + 1).toNat = a.natAbs + 1 by omega]
    obtain ⟨K1, k1⟩ := hp
    obtain ⟨K2, k2⟩ := hq
    obtain ⟨K3, k3⟩ := hr
    refine ⟨K1 + K2 + K3, fun k hk => ?_⟩
    dsimp only at k1 k2 k3
    show cavilref33_Step.f k a = _
    unfold cavilref33_Step.f
    rw [show (1 : Int).natAbs = 1 from rfl] at ht
    rw [k1 k (by omega), Option.bind_some, if_pos c, k2 k (by omega), Option.bind_some, k3 k (by omega), Option.bind_some, ht, Option.bind_some, bytes_size, if_pos (by omega), ← bytes_app]
  · rw [if_neg c]
    by_cases c1 : a = -1
    · obtain ⟨p, hp⟩ := small_any a h0 h1
      obtain ⟨K1, k1⟩ := hp
      refine ⟨K1, fun k hk => ?_⟩
      dsimp only at k1
      show cavilref33_Step.f k a = _
      unfold cavilref33_Step.f
      rw [k1 k (by omega), Option.bind_some, if_neg c, if_pos c1, if_pos c1]
    · rw [if_neg c1]
      by_cases c2 : a < -4611686018427387904
      · obtain ⟨p0, hp0⟩ := small_any a h0 h1
        obtain ⟨p, hp, hpi⟩ : ∃ r, Ev (fun k => cavilref07_Sub.f k false [] false [0, 0, 0, 16384]) r ∧ (Is r true 4611686018427387904) := sub_ev (p := (false, [])) (q := (false, [0, 0, 0, 16384])) power_is (by decide) fun q' hq' => by
          have hq1 : q'.1 = true := by rw [hq'.2.2.2]; rfl
          obtain ⟨r, hr, hri⟩ := add_less (p := (false, [])) nil_is hq' (by decide) (by decide) (by rw [hq1]; decide)
          rw [hq1] at hri
          exact ⟨r, hr, hri⟩
        obtain ⟨q, hq, hqi⟩ := small_ev (a + 4611686018427387904) (by omega) (by omega)
        have hp1 : p.1 = true := hpi.2.2.2
        have hq1 : q.1 = true := by rw [hqi.2.2.2, decide_eq_true (by omega), decide_eq_true (by omega)]; rfl
        obtain ⟨u, hu, hui⟩ := add_same hpi hqi (by decide) (by omega) (hp1.trans hq1.symm)
        rw [hp1] at hui
        obtain ⟨b, hb, r, hr, hri, hr1⟩ := less_one hui (by omega) (by omega)
        have ht := text_is hri (by omega) hr1
        have e : 4611686018427387904 + (a + 4611686018427387904).natAbs - 1 = (-(a + 1)).toNat := by omega
        rw [e] at ht
        have hl := dec_len (-(a + 1)).toNat (by omega)
        have hw : wrap64 (a + 4611686018427387904) = a + 4611686018427387904 := by unfold wrap64; omega
        obtain ⟨K0, k0⟩ := hp0
        obtain ⟨K1, k1⟩ := hp
        obtain ⟨K2, k2⟩ := hq
        obtain ⟨K3, k3⟩ := hu
        obtain ⟨K4, k4⟩ := hb
        obtain ⟨K5, k5⟩ := hr
        refine ⟨K0 + K1 + K2 + K3 + K4 + K5, fun k hk => ?_⟩
        dsimp only at k0 k1 k2 k3 k4 k5
        show cavilref33_Step.f k a = _
        unfold cavilref33_Step.f
        rw [k0 k (by omega), Option.bind_some, if_neg c, if_neg c1, if_pos c2, power_f, Option.bind_some, k1 k (by omega), Option.bind_some, hw, k2 k (by omega), Option.bind_some, k3 k (by omega), Option.bind_some, k4 k (by omega), Option.bind_some, k5 k (by omega), Option.bind_some, ht, Option.bind_some, bytes_size, if_pos (by omega), ← bytes_app]
      · obtain ⟨p, hp, hpi⟩ := small_ev a (by omega) h1
        rw [decide_eq_true (show a < 0 by omega)] at hpi
        obtain ⟨b, hb, r, hr, hri, hr1⟩ := less_one hpi (by omega) (by omega)
        have ht := text_is hri (by omega) hr1
        have e : a.natAbs - 1 = (-(a + 1)).toNat := by omega
        rw [e] at ht
        have hl := dec_len (-(a + 1)).toNat (by omega)
        obtain ⟨K1, k1⟩ := hp
        obtain ⟨K4, k4⟩ := hb
        obtain ⟨K5, k5⟩ := hr
        refine ⟨K1 + K4 + K5, fun k hk => ?_⟩
        dsimp only at k1 k4 k5
        show cavilref33_Step.f k a = _
        unfold cavilref33_Step.f
        rw [k1 k (by omega), Option.bind_some, if_neg c, if_neg c1, if_neg c2, k4 k (by omega), Option.bind_some, k5 k (by omega), Option.bind_some, ht, Option.bind_some, bytes_size, if_pos (by omega), ← bytes_app]
end Go.Proofs.YtnpgadfoohjlnabDoor.Plain
