/- Where a Lean function of this text answers, the Go function of its name comes to that answer: no other condition. Written by a program of this session out of the translation; Lean checks it. -/
import Derived.Test.YtnpgadfoohjlnabDoorQK0
namespace Go.Proofs.YtnpgadfoohjlnabDoor.QK
open Go.RowKit Go.Proofs.YtnpgadfoohjlnabDoorW.PrintWords Go.Proofs.YtnpgadfoohjlnabDoorW.PrintLast Go.Proofs.YtnpgadfoohjlnabDoorW.PrintMore Go.Proofs.YtnpgadfoohjlnabDoorW.PrintX
attribute [local go_sem] max2_int min2_int max_two min_two max_three min_three max_four min_four   -- for this text's walks alone
set_option linter.unusedVariables false
set_option linter.unusedSimpArgs false

/-! ### cavilref07_trim: function 86 -/
/-- How long a row of digits is without the noughts at its end. -/
def cavilref07_trim.tl (l : List Int) : Nat → Nat
  | 0 => 0
  | n + 1 => if rd l n = 0 then cavilref07_trim.tl l n else n + 1
theorem cavilref07_trim.tl_le (l : List Int) : ∀ n, cavilref07_trim.tl l n ≤ n
  | 0 => Nat.le_refl _
  | n + 1 => by
    rw [cavilref07_trim.tl]
    split
    · have := cavilref07_trim.tl_le l n
      omega
    · omega
set_option maxHeartbeats 4000000 in
set_option maxRecDepth 100000 in
theorem cavilref07_trim.raw (a0 : Bool) (A : Option Addr) (c : Nat) (l : List Int) (w : World) (hr : Kd.C (Kd.int .i64) w A l.length l) (hc : l.length ≤ c) (hm : l.length ≤ 9223372036854775807) :
    Calls Tryd.prog 86 #[.bool a0, .slice A l.length c] w fun e w' => e = .returned (.agg #[.bool (a0 && decide (0 < cavilref07_trim.tl l l.length)), .slice A (cavilref07_trim.tl l l.length) c]) ∧ Below w.heap.size w w' := by
  have hu := Tryd.underlying93
  obtain ⟨n, hn⟩ : ∃ n, n = cavilref07_trim.tl l l.length := ⟨_, rfl⟩
  have hle := cavilref07_trim.tl_le l l.length
  rw [← hn] at hle ⊢
  have HR := Aside0.mk hr
  have HN := Aside0.mk (⟨hn, hle, hc, hm⟩ : n = cavilref07_trim.tl l l.length ∧ n ≤ l.length ∧ l.length ≤ c ∧ l.length ≤ 9223372036854775807)
  obtain ⟨i3, hi3, _⟩ := Option.map_eq_some_iff.1 info3
  have hcut := cut_to (P := Tryd.prog) 28 3 .i64 Tryd.underlying28 hi3 A l.length c (n : Int) (by omega) (by omega) hc
  rw [Int.toNat_natCast] at hcut
  clear hr hn hle hc hm
  go_enter Tryd.func86, Tryd.ntmps86
  go_wp2_with (first
    | ((with_reducible refine gate_dst (N := 4) rfl ?_); refine box_event ?hg (N := 4) ?hd (cs := #[.bool false, .slice none 0 0]) (t := 93) ?hr ?_; (case hd => rfl); (case hg => rfl); (case hr => first | (go_simp; done) | (go_simp; rfl)); intro gb egb w2 hxb hbb; have XB := Aside0.mk hxb; have BB := Aside0.mk hbb; have GE := Aside0.mk (Nat.le_of_eq egb.symm); have qb0 := blk_cell hxb 0; have qb1 := blk_cell hxb 1; have zb0 := blk_frozen hxb 0; have zb1 := blk_frozen hxb 1; simp only [List.getElem?_toArray, List.getElem?_cons_zero, List.getElem?_cons_succ] at qb0 qb1; clear hxb hbb egb))
  have HR2 := Aside0.mk (Kd.C_below HR.out BB.out)
  go_loopg [5] l.length (fun kq v5 w' => v5 = .int .i64 (kq : Int) ∧ Aside0 (kq ≤ l.length ∧ cavilref07_trim.tl l kq = n) ∧ w' = w2)
  case atStart => exact ⟨rfl, ⟨Nat.le_refl _, HN.out.1.symm⟩, rfl⟩
  case round =>
    obtain ⟨rfl, HK, rfl⟩ := hrel
    have fin : cavilref07_trim.tl l gk = gk → n = gk := fun h => HK.out.2.symm.trans h
    rcases gk with _ | m
    · obtain rfl := fin rfl
      clear fin
      cases a0
      · go_wp2
        refine bodyPost_ret (results_cell_row rfl _ _ gb 93 #[.bool false, .slice A 0 c] (0, 0) _ rfl (blk_put (blk_put XB.out 0 (.bool false) rfl) 1 (.slice A 0 c) rfl) Tryd.underlying93 rfl (by kernel_rfl)) rfl ?_
        exact ⟨rfl, (BB.out.setCell (p := ⟨gb, 0, none⟩) GE.out _).setCell (p := ⟨gb, 1, none⟩) GE.out _⟩
      · go_wp2
        refine bodyPost_ret (results_cell_row rfl _ _ gb 93 #[.bool false, .slice A 0 c] (0, 0) _ rfl (blk_put (blk_put XB.out 0 (.bool false) rfl) 1 (.slice A 0 c) rfl) Tryd.underlying93 rfl (by kernel_rfl)) rfl ?_
        exact ⟨rfl, (BB.out.setCell (p := ⟨gb, 0, none⟩) GE.out _).setCell (p := ⟨gb, 1, none⟩) GE.out _⟩
    · have hk := HK.out
      have hm := HN.out.2.2.2
      have w0 : wrap64 (((m + 1 : Nat) : Int) - 1) = (m : Int) := by unfold wrap64; omega
      have w1 : wrap64 (m : Int) = (m : Int) := by unfold wrap64; omega
      have d0 : decide (0 < ((m + 1 : Nat) : Int)) = true := decide_eq_true (by omega)
      obtain ⟨ad, eA, hx⟩ := Kd.at_int HR2.out (m : Int) (by omega) (by omega)
      subst eA
      rw [Int.toNat_natCast] at hx
      have p1 : (0 ≤ (m : Int)) = True := eq_true (by omega)
      have p2 : ((m : Int) < (l.length : Int)) = True := eq_true (by omega)
      by_cases hz : rd l m = 0
      · have ht := hk.2
        rw [cavilref07_trim.tl, if_pos hz] at ht
        have HK2 := Aside0.mk (⟨by omega, ht⟩ : m ≤ l.length ∧ cavilref07_trim.tl l m = n)
        rw [hz] at hx
        clear hk hm fin HK ht hz
        go_wp2
        go_roundg m
        case measure => omega
        case rel => exact ⟨by rw [w1], HK2, rfl⟩
      · have ht := hk.2
        rw [cavilref07_trim.tl, if_neg hz] at ht
        obtain rfl := ht.symm
        have e0 : (rd l m == 0) = false := beq_eq_false_iff_ne.mpr hz
        have e1 : decide (rd l m = 0) = false := decide_eq_false hz
        have p3 : ((m : Int) + 1 ≤ (c : Int)) = True := eq_true (by have := HN.out; omega)
        have p4 : (0 ≤ (m : Int) + 1) = True := eq_true (by omega)
        clear hk hm fin HK hz ht
        cases a0
        · go_wp2
          refine bodyPost_ret (results_cell_row rfl _ _ gb 93 #[.bool false, .slice (some ad) (m + 1) c] (0, 0) _ rfl (blk_put (blk_put XB.out 0 (.bool false) rfl) 1 (.slice (some ad) (m + 1) c) rfl) Tryd.underlying93 rfl (by kernel_rfl)) rfl ?_
          exact ⟨rfl, (BB.out.setCell (p := ⟨gb, 0, none⟩) GE.out _).setCell (p := ⟨gb, 1, none⟩) GE.out _⟩
        · go_wp2
          refine bodyPost_ret (results_cell_row rfl _ _ gb 93 #[.bool true, .slice (some ad) (m + 1) c] (0, 0) _ rfl (blk_put (blk_put XB.out 0 (.bool true) rfl) 1 (.slice (some ad) (m + 1) c) rfl) Tryd.underlying93 rfl (by kernel_rfl)) rfl ?_
          exact ⟨by simp, (BB.out.setCell (p := ⟨gb, 0, none⟩) GE.out _).setCell (p := ⟨gb, 1, none⟩) GE.out _⟩
def cavilref07_trim.f (a0 : Bool) (l1 : List Int) : Option (Bool × List Int) := if l1.length ≤ 9223372036854775807 then some (a0 && decide (0 < cavilref07_trim.tl l1 l1.length), l1.take (cavilref07_trim.tl l1 l1.length)) else none
theorem cavilref07_trim.calls (a0 : Bool) (P1_ : Nat → Prop) (A1 : Option Addr) (c1 : Nat) (l1 : List Int) (r1 : Bool) (r2 : List Int) (w : World) (hs1 : Kd.V (Kd.int .i64) 3 w w.heap.size (fun k_ => P1_ k_) (.slice A1 l1.length c1) l1) (h : cavilref07_trim.f a0 l1 = some (r1, r2)) :
    Calls Tryd.prog 86 #[.bool a0, .slice A1 l1.length c1] w fun e w' => ∃ v1_ : Value, e = .returned (.agg #[.bool r1, v1_]) ∧ Kd.V (Kd.int .i64) 3 w' w.heap.size (fun k_ => (P1_ k_ ∨ w.heap.size ≤ k_)) v1_ r2 ∧ Below w.heap.size w w' := by
  unfold cavilref07_trim.f at h
  split at h
  case isFalse => cases h
  rename_i hm
  simp only [Option.some.injEq, Prod.mk.injEq] at h
  obtain ⟨rfl, rfl⟩ := h
  obtain ⟨_, hc, hF⟩ := Kd.V_at hs1
  have hle := cavilref07_trim.tl_le l1 l1.length
  refine (cavilref07_trim.raw a0 A1 c1 l1 w (Kd.F_now hF) hc hm).mono fun e w' h => ?_
  obtain ⟨rfl, hb⟩ := h
  have hl : (l1.take (cavilref07_trim.tl l1 l1.length)).length = cavilref07_trim.tl l1 l1.length := by rw [List.length_take]; omega
  refine ⟨.slice A1 (cavilref07_trim.tl l1 l1.length) c1, rfl, ?_, hb⟩
  have := Kd.V_mk (d := Kd.int .i64) (e := 3) (base := w.heap.size) (c := c1) (by rw [hl]; omega) (Kd.F_mono (Kd.F_below (Kd.F_take hF hle) hb) (fun k_ hk => (.inl hk : P1_ k_ ∨ w.heap.size ≤ k_)))
  rw [hl] at this
  exact this
-- SELF cavil/cavilref07.trim

/-! ### cavilref07_Small: function 56 -/
mutual
def cavilref07_Small.j0 : Nat → Int → List Int → Int → Option (Bool × List Int)
  | 0, _, _, _ => none
  | k + 1, x0, x3, x4 => cavilref07_Small.l0 k x0 x3 x4
def cavilref07_Small.l0 : Nat → Int → List Int → Int → Option (Bool × List Int)
  | 0, _, _, _ => none
  | k + 1, x0, x3, x4 => if x4 > 0 then (if x3.length < 17592186044416 then (cavilref07_Small.l0 k x0 (x3 ++ [Int.tmod x4 65536]) (wrap64 (Int.tdiv x4 65536))) else (none)) else ((cavilref07_trim.f (decide (x0 < 0)) x3).bind fun bt143 => (some (bt143.1, bt143.2)))
end
def cavilref07_Small.f (k : Nat) (a0 : Int) : Option (Bool × List Int) := if a0 < 0 then (cavilref07_Small.j0 k a0 ([] : List Int) (wrap64 (-a0))) else (cavilref07_Small.j0 k a0 ([] : List Int) a0)
theorem cavilref07_Small.mono_l : ∀ k, (∀ y0 y1 y2, LeO (cavilref07_Small.j0 k y0 y1 y2) (cavilref07_Small.j0 (k + 1) y0 y1 y2)) ∧ (∀ y0 y1 y2, LeO (cavilref07_Small.l0 k y0 y1 y2) (cavilref07_Small.l0 (k + 1) y0 y1 y2))
  | 0 => ⟨fun _ _ _ r h => by simp [cavilref07_Small.j0] at h, fun _ _ _ r h => by simp [cavilref07_Small.l0] at h⟩
  | k + 1 => by
    obtain ⟨ih0, ih1⟩ := cavilref07_Small.mono_l k
    refine ⟨?_, ?_⟩
    · intro y0 y1 y2
      unfold cavilref07_Small.j0
      repeat' first
      | (with_reducible exact ih0 _ _ _)
      | (with_reducible exact ih1 _ _ _)
      | (with_reducible exact LeO.refl _)
      | (with_reducible exact LeO.none _)
      | (with_reducible refine LeO.ite ?_ ?_)
      | (with_reducible refine LeO.bind ?_ (fun _ => ?_))
      | exact ih0 _ _ _
      | exact ih1 _ _ _
      | exact LeO.none _
      | refine LeO.ite ?_ ?_
      | refine LeO.bind ?_ (fun _ => ?_)
    · intro y0 y1 y2
      unfold cavilref07_Small.l0
      repeat' first
      | (with_reducible exact ih0 _ _ _)
      | (with_reducible exact ih1 _ _ _)
      | (with_reducible exact LeO.refl _)
      | (with_reducible exact LeO.none _)
      | (with_reducible refine LeO.ite ?_ ?_)
      | (with_reducible refine LeO.bind ?_ (fun _ => ?_))
      | exact ih0 _ _ _
      | exact ih1 _ _ _
      | exact LeO.none _
      | refine LeO.ite ?_ ?_
      | refine LeO.bind ?_ (fun _ => ?_)
theorem cavilref07_Small.mono : ∀ a0 k, LeO (cavilref07_Small.f k a0) (cavilref07_Small.f (k + 1) a0) := by
  intro a0 k
  obtain ⟨ih0, ih1⟩ := cavilref07_Small.mono_l k
  unfold cavilref07_Small.f
  repeat' first
      | (with_reducible exact ih0 _ _ _)
      | (with_reducible exact ih1 _ _ _)
      | (with_reducible exact LeO.refl _)
      | (with_reducible exact LeO.none _)
      | (with_reducible refine LeO.ite ?_ ?_)
      | (with_reducible refine LeO.bind ?_ (fun _ => ?_))
      | exact ih0 _ _ _
      | exact ih1 _ _ _
      | exact LeO.none _
      | refine LeO.ite ?_ ?_
      | refine LeO.bind ?_ (fun _ => ?_)
set_option maxHeartbeats 8000000 in
set_option maxRecDepth 100000 in
theorem cavilref07_Small.calls (k : Nat) (a0 : Int) (r1 : Bool) (r2 : List Int) (w : World) (h : cavilref07_Small.f k a0 = some (r1, r2)) :
    Calls Tryd.prog 56 #[.int .i64 a0] w fun e w' => ∃ v1_ : Value, e = .returned (.agg #[.bool r1, v1_]) ∧ Kd.V (Kd.int .i64) 3 w' w.heap.size (fun k_ => (w.heap.size ≤ k_)) v1_ r2 ∧ Below w.heap.size w w' := by
  have hu93 := Tryd.underlying93
  have HB := Aside0.mk (Below.refl w.heap.size w)
  have H : (if a0 < 0 then (cavilref07_Small.j0 k a0 ([] : List Int) (wrap64 (-a0))) else (cavilref07_Small.j0 k a0 ([] : List Int) a0)) = some (r1, r2) := h
  clear h
  have HC2 := Aside0.mk H
  clear H
  go_enter Tryd.func56, Tryd.ntmps56
  go_upto_if 7 with (first | ((with_reducible refine gate_dst (N := 2) rfl ?_); refine box_event ?hg (N := 2) ?hd (cs := #[.bool false, .slice none 0 0]) (t := 93) ?hr ?_; (case hd => rfl); (case hg => rfl); (case hr => first | (go_simp; done) | (go_simp; rfl)); intro gb139 hg w3 hbox hb; have n0_ := Aside0.mk (below_step (by repeat (first | (with_reducible first | exact HB.out | apply below_alloc | apply pw_below_drewN | apply below_drew1) | exact HB.out)) hb); have n1_ := Aside0.mk (hbox); have n2_ := Aside0.mk ((by rw [hg]; exact (below_size (by repeat (first | (with_reducible first | exact HB.out | apply below_alloc | apply pw_below_drewN | apply below_drew1) | exact HB.out))) : w.heap.size ≤ gb139)); have n3_ := Aside0.mk ((by rw [hg]; exact (below_size (by repeat (first | (with_reducible first | exact HB.out | apply below_alloc | apply pw_below_drewN | apply below_drew1) | exact HB.out))) : w.heap.size ≤ gb139)); clear HB; have HB := n0_; have BK139 := n1_; have GW139 := n2_; have GE139 := n3_; clear n0_ n1_ n2_ n3_; clear hb hbox hg))
  (try simp only [Act.put, List.setIfInBounds_toArray, List.set_cons_zero, List.set_cons_succ])
  go_cut [4] (fun v4 wc => ∃ (kq : Nat) (x4_1 : Int), v4 = .int .i64 x4_1 ∧ Aside0 (cavilref07_Small.j0 kq a0 ([] : List Int) x4_1 = some (r1, r2)) ∧ Aside0 (kq ≤ k) ∧ Aside0 (Kd.R (Kd.int .i64) 3 wc w.heap.size (fun k_ => (w.heap.size ≤ k_)) (.slice none 0 0) ([] : List Int)) ∧ Aside0 (wc.heap[gb139]? = some (.cells #[.bool false, (.slice none 0 0)] 93 (0, 0))) ∧ Aside0 (Below w.heap.size w wc))
  case first =>
    have H := HC2.out
    clear HC2
    by_cases c4 : a0 < 0
    · rw [if_pos c4] at H
      have c4b0 : decide (a0 < 0) = true := decide_eq_true c4
      clear c4
      (first | rw [c4b0] | (simp only [i64_w, i32_w]; rw [c4b0]) | skip)
      have H' := Aside0.mk H
      clear H
      go_wp2
      go_meet
      case rel => exact ⟨_, (wrap64 (-a0)), (by first | rfl | (simp; done) | (simp [*]; done)), H', ⟨by first | omega | exact Nat.le_refl _⟩, ⟨by first | exact Kd.R_nil _ _ _ _ _ | exact Kd.N_nil _ _ _ _ _ | exact Kd.V_nil _ _ _ _ _ | exact Kd.Q_nil _ _ _ _ _ | exact Kd.S_nil _ _ _ _ _⟩, ⟨by (with_reducible repeat (first | refine blk_drewN ?_ _ | refine blk_drew ?_ | refine blk_alloc ?_ _)); exact BK139.out⟩, ⟨by repeat (first | (with_reducible first | exact HB.out | apply below_alloc | apply pw_below_drewN | apply below_drew1 | refine below_set ?_ GE139.out) | exact HB.out)⟩⟩
    · rw [if_neg c4] at H
      have c4b0 : decide (a0 < 0) = false := decide_eq_false c4
      clear c4
      (first | rw [c4b0] | (simp only [i64_w, i32_w]; rw [c4b0]) | skip)
      have H' := Aside0.mk H
      clear H
      go_wp2
      go_meet
      case rel => exact ⟨_, (a0), (by first | rfl | (simp; done) | (simp [*]; done)), H', ⟨by first | omega | exact Nat.le_refl _⟩, ⟨by first | exact Kd.R_nil _ _ _ _ _ | exact Kd.N_nil _ _ _ _ _ | exact Kd.V_nil _ _ _ _ _ | exact Kd.Q_nil _ _ _ _ _ | exact Kd.S_nil _ _ _ _ _⟩, ⟨by (with_reducible repeat (first | refine blk_drewN ?_ _ | refine blk_drew ?_ | refine blk_alloc ?_ _)); exact BK139.out⟩, ⟨by repeat (first | (with_reducible first | exact HB.out | apply below_alloc | apply pw_below_drewN | apply below_drew1 | refine below_set ?_ GE139.out) | exact HB.out)⟩⟩
  case rest =>
    clear HC2
    try clear p2
    try clear c4
    try clear c4b0
    obtain ⟨kq, x4_1, rfl, HA, HJ1, HO_3, BK139, HB⟩ := hcut
    cases kq with
    | zero => exact absurd HA.out (by simp [cavilref07_Small.j0])
    | succ kj1 =>
      have H := HA.out
      clear HA
      simp only [cavilref07_Small.j0] at H
      have H' := Aside0.mk H
      clear H
      go_wp2
      go_loopg [3, 4] kj1 (fun kq v3 v4 w' => ∃ (x3_2 : List Int) (x4_2 : Int), v4 = .int .i64 x4_2 ∧ Aside0 (cavilref07_Small.l0 kq a0 x3_2 x4_2 = some (r1, r2)) ∧ Aside0 (kq ≤ kj1) ∧ Aside0 (Kd.R (Kd.int .i64) 3 w' w.heap.size (fun k_ => (w.heap.size ≤ k_)) v3 x3_2) ∧ Aside0 (w'.heap[gb139]? = some (.cells #[.bool false, (.slice none 0 0)] 93 (0, 0))) ∧ Aside0 (Below w.heap.size w w'))
      case atStart => exact ⟨(([] : List Int)), (x4_1), (by first | rfl | (simp; done) | (simp [*]; done)), H', ⟨Nat.le_refl _⟩, ⟨by (with_reducible repeat (first | apply Kd.R_alloc | apply Kd.R_drewN | apply Kd.R_drew)); exact HO_3.out⟩, ⟨by (with_reducible repeat (first | refine blk_drewN ?_ _ | refine blk_drew ?_ | refine blk_alloc ?_ _)); exact BK139.out⟩, ⟨by repeat (first | (with_reducible first | exact HB.out | apply below_alloc | apply pw_below_drewN | apply below_drew1 | refine below_set ?_ GE139.out) | exact HB.out)⟩⟩
      case round =>
        clear H'
        try clear p2
        try clear c4
        try clear c4b0
        try clear p2
        obtain ⟨x3_2, x4_2, rfl, HA, HK2, HO_3, BK139, HB⟩ := hrel
        cases gk with
        | zero => exact absurd HA.out (by simp [cavilref07_Small.l0])
        | succ k2 =>
          have H := HA.out
          clear HA
          simp only [cavilref07_Small.l0] at H
          by_cases c5 : x4_2 > 0
          · rw [if_pos c5] at H
            have c5b0 : decide (0 < x4_2) = true := decide_eq_true c5
            clear c5
            by_cases c6 : x3_2.length < 17592186044416
            · rw [if_pos c6] at H
              have LMc6 := Aside0.mk c6
              clear c6
              obtain ⟨y140, hy140⟩ : ∃ y_ : List Int, y_ = (x3_2 ++ [Int.tmod x4_2 65536]) := ⟨_, rfl⟩
              replace H : (cavilref07_Small.l0 k2 a0 y140 (wrap64 (Int.tdiv x4_2 65536))) = some (r1, r2) := by first | (rw [hy140]; with_reducible exact H) | (have H2_ := (Option.bind_some _ _).symm.trans H; rw [hy140]; with_reducible exact H2_) | (have H2_ := (Option.bind_some _ _).symm.trans H; with_reducible exact H2_) | with_reducible exact H | (rw [hy140]; exact H) | exact H
              have Ny140 := Aside0.mk hy140
              clear hy140
              have H' := Aside0.mk H
              clear H
              go_wp2_with (first | ((with_reducible refine gate_builtin (b := .append) (xs := #[.tmp 12, .tmp 15]) rfl ?_); at_builtin; refine Kd.R_append (Kd.int .i64) (w0 := w) w.heap.size rfl (.tmp 12) (.tmp 15) 28 3 (.int .i64 0) 8 rfl Tryd.underlying28 info3 rfl (by decide) (by omega) u3 x3_2 (Int.tmod x4_2 65536) [.int .i64 (Int.tmod x4_2 65536)] (fun k_ => (w.heap.size ≤ k_)) (fun _ => False) rfl rfl ?aP (fun _ hk => hk.elim) ?aF ?aO ?aB ?aS ?aL ?_; (case aP => exact rfl); (case aB => exact (by repeat (first | (with_reducible first | exact HB.out | apply below_alloc | apply pw_below_drewN | apply below_drew1 | refine below_set ?_ GE139.out) | exact HB.out))); (case aF => exact (fun k_ hk => (Nat.le_trans (below_size (by repeat (first | (with_reducible first | exact HB.out | apply below_alloc | apply pw_below_drewN | apply below_drew1 | refine below_set ?_ GE139.out) | exact HB.out))) hk))); (case aO => exact (by (with_reducible repeat (first | apply Kd.R_alloc | apply Kd.R_drewN | apply Kd.R_drew)); exact HO_3.out)); (case aS => exact (below_size (by repeat (first | (with_reducible first | exact HB.out | apply below_alloc | apply pw_below_drewN | apply below_drew1 | refine below_set ?_ GE139.out) | exact HB.out)))); (case aL => have := LMc6.out; omega); intro v141 w7 ho hb hg hat; rw [← Ny140.out] at ho; have n0_ := Aside0.mk (blk_grown (g := gb139) (o := .cells #[.bool false, .slice none 0 0] 93 (0, 0)) (by (with_reducible repeat (first | refine blk_drewN ?_ _ | refine blk_drew ?_ | refine blk_alloc ?_ _)); exact BK139.out) hg (Kd.R_ne HO_3.out BK139.out (by decide))); have n1_ := Aside0.mk (hb); have n2_ := Aside0.mk (ho); clear BK139; clear HB; clear HO_3; have BK139 := n0_; have HB := n1_; have HO142 := n2_; clear n0_ n1_ n2_; clear ho hb hg hat))
              go_roundg k2
              case measure => have := HJ1.out; have := HK2.out; omega
              case rel => exact ⟨(y140), (wrap64 (Int.tdiv x4_2 65536)), (by first | rfl | (simp; done) | (simp [*]; done)), H', ⟨by have := HJ1.out; have := HK2.out; omega⟩, ⟨by (with_reducible repeat (first | apply Kd.R_alloc | apply Kd.R_drewN | apply Kd.R_drew)); exact HO142.out⟩, ⟨by (with_reducible repeat (first | refine blk_drewN ?_ _ | refine blk_drew ?_ | refine blk_alloc ?_ _)); exact BK139.out⟩, ⟨by repeat (first | (with_reducible first | exact HB.out | apply below_alloc | apply pw_below_drewN | apply below_drew1 | refine below_set ?_ GE139.out) | exact HB.out)⟩⟩
            · rw [if_neg c6] at H
              exact absurd H (by simp)
          · rw [if_neg c5] at H
            have c5b0 : decide (0 < x4_2) = false := decide_eq_false c5
            clear c5
            replace H := Option.bind_eq_some_iff.mp H
            obtain ⟨⟨t143, t144⟩, A80, H⟩ := H
            replace H : (some (t143, t144)) = some (r1, r2) := H
            have A8 := Aside0.mk A80
            clear A80
            simp only [Option.some.injEq, Prod.mk.injEq] at H
            obtain ⟨rfl, rfl⟩ := H
            obtain ⟨Ao9, co9, eo9⟩ := Kd.R_slice HO_3.out
            subst eo9
            go_wp2_with (first | ((with_reducible refine gate_callee (f := 86) rfl ?_); refine goesL_ (some 22) rfl rfl Tryd.func86 (by kernel_rfl) rfl #[.bool (decide (a0 < 0)), .slice Ao9 x3_2.length co9] rfl (by (try simp only [List.map_toArray, List.map_cons, List.map_nil]); first | done | rfl | (simp only [List.length_drop, List.length_take]; rfl)) ?_; (with_reducible refine (cavilref07_trim.calls (decide (a0 < 0)) (fun k_ => some k_ = (.slice Ao9 x3_2.length co9 : Value).ownBlock) _ _ x3_2 t143 t144 _ ?side1 A8.out).mono ?_); (case side1 => exact Kd.R_V (Kd.R_tight rfl (Kd.R_types (HO_3.out) BK139.out (by decide)))); rintro e w10 ⟨v145, rfl, ho0, hb⟩; refine ⟨_, rfl, ?_⟩; have n0_ := Aside0.mk (Kd.R_below (by (with_reducible repeat (first | apply Kd.R_alloc | apply Kd.R_drewN | apply Kd.R_drew)); exact HO_3.out) hb); have n1_ := Aside0.mk (Kd.V_lower (Kd.V_mono (ok' := fun k_ => (w.heap.size ≤ k_) ∧ k_ ≠ gb139) ho0 (fun k_ hk_ => ⟨Or.elim hk_ (fun hs_ => ((Kd.R_types (HO_3.out) BK139.out (by decide)).1 k_ hs_.symm).1) (fun hn_ => (Nat.le_trans (below_size (by repeat (first | (with_reducible first | exact HB.out | apply below_alloc | apply pw_below_drewN | apply below_drew1 | refine below_set ?_ GE139.out) | exact HB.out))) hn_)), Or.elim hk_ (fun hs_ => ((Kd.R_types (HO_3.out) BK139.out (by decide)).1 k_ hs_.symm).2) (fun hn_ => (Kd.freshB (g := gb139) (o := .cells #[.bool false, .slice none 0 0] 93 (0, 0)) (by (with_reducible repeat (first | refine blk_drewN ?_ _ | refine blk_drew ?_ | refine blk_alloc ?_ _)); exact BK139.out) k_ hn_))⟩)) (below_size (by repeat (first | (with_reducible first | exact HB.out | apply below_alloc | apply pw_below_drewN | apply below_drew1 | refine below_set ?_ GE139.out) | exact HB.out)))); have n2_ := Aside0.mk (blk_below (g := gb139) (o := .cells #[.bool false, .slice none 0 0] 93 (0, 0)) (by (with_reducible repeat (first | refine blk_drewN ?_ _ | refine blk_drew ?_ | refine blk_alloc ?_ _)); exact BK139.out) hb); have n3_ := Aside0.mk (below_step (by repeat (first | (with_reducible first | exact HB.out | apply below_alloc | apply pw_below_drewN | apply below_drew1 | refine below_set ?_ GE139.out) | exact HB.out)) hb); clear HO_3; clear BK139; clear HB; have HO_3 := n0_; have HO146 := n1_; have BK139 := n2_; have HB := n3_; clear n0_ n1_ n2_ n3_; (try clear hb); (try clear hb2); (try clear hk); (try clear hi); (try clear ho0); have hcz11_0 : w10.cell? ⟨gb139, 0, none⟩ = some (.bool false) := (blk_cell BK139.out 0).trans rfl; have hcz11_1 : w10.cell? ⟨gb139, 1, none⟩ = some (.slice none 0 0) := (blk_cell BK139.out 1).trans rfl; have hfz11_0 := blk_frozen BK139.out 0; have hfz11_1 := blk_frozen BK139.out 1; obtain ⟨Ao12, co12, eo12⟩ := Kd.V_slice HO146.out; subst eo12))
            refine bodyPost_ret (results_cell_row rfl _ _ gb139 93 #[.bool t143, .slice Ao12 t144.length co12] (0, 0) _ rfl (by (with_reducible repeat (first | refine blk_drewN ?_ _ | refine blk_drew ?_ | refine blk_alloc ?_ _)); refine blk_put (cs := #[.bool t143, .slice none 0 0]) ?_ 1 _ rfl; (with_reducible repeat (first | refine blk_drewN ?_ _ | refine blk_drew ?_ | refine blk_alloc ?_ _)); refine blk_put (cs := #[.bool false, .slice none 0 0]) ?_ 0 _ rfl; (with_reducible repeat (first | refine blk_drewN ?_ _ | refine blk_drew ?_ | refine blk_alloc ?_ _)); exact BK139.out) Tryd.underlying93 rfl (by kernel_rfl)) rfl ?_
            exact ⟨_, by first | rfl | (simp [errW_none, errW_some, erT_no, erV_no, erT_at, erV_at] <;> rfl) | (simp [*, errW_none, errW_some, erT_no, erV_no, erT_at, erV_at] <;> rfl), by (with_reducible repeat (first | apply Kd.V_alloc | apply Kd.V_drewN | apply Kd.V_drew)); exact Kd.V_mono (Kd.V_far (p := ⟨gb139, 1, none⟩) (Kd.V_far (p := ⟨gb139, 0, none⟩) (Kd.V_mono HO146.out (fun k_ hk => (⟨hk, hk.2⟩ : _ ∧ k_ ≠ gb139))) (fun _ hk => hk.2) (.bool t143)) (fun _ hk => hk.2) (.slice Ao12 t144.length co12)) (fun _ hk => hk.1.1), by repeat (first | (with_reducible first | exact HB.out | apply below_alloc | apply pw_below_drewN | apply below_drew1 | refine below_set ?_ GE139.out) | exact HB.out)⟩

/-! ### cavilref07_Text: function 57 -/
def cavilref07_Text.val : List Int → Nat
  | [] => 0
  | x :: l => x.toNat + 65536 * cavilref07_Text.val l
theorem cavilref07_Text.val_app : ∀ (a b : List Int), cavilref07_Text.val (a ++ b) = cavilref07_Text.val a + 65536 ^ a.length * cavilref07_Text.val b
  | [], b => by simp [cavilref07_Text.val]
  | x :: a, b => by
    rw [List.cons_append, cavilref07_Text.val, cavilref07_Text.val, cavilref07_Text.val_app a b, List.length_cons, Nat.pow_succ, Nat.mul_add, ← Nat.mul_assoc, Nat.mul_comm 65536 (65536 ^ _)]
    omega
theorem cavilref07_Text.val_zero : ∀ (l : List Int), (∀ x ∈ l, 0 ≤ x) → cavilref07_Text.val l = 0 → ∀ x ∈ l, x = 0
  | [], _, _, x, h => by cases h
  | y :: l, h, h0, x, hx => by
    rw [cavilref07_Text.val] at h0
    have hy := h y (List.mem_cons_self ..)
    rcases List.mem_cons.1 hx with rfl | hx
    · omega
    · exact cavilref07_Text.val_zero l (fun z hz => h z (List.mem_cons_of_mem _ hz)) (by omega) x hx
def cavilref07_Text.fine (l : List Int) : Prop := (∀ x ∈ l, 0 ≤ x ∧ x < 65536) ∧ cavilref07_trim.tl l l.length = l.length ∧ l.length ≤ 1000 ∧ cavilref07_Text.val l < 18446744073709551616
instance (l : List Int) : Decidable (cavilref07_Text.fine l) := by unfold cavilref07_Text.fine; exact inferInstance
theorem cavilref07_Text.rd_mem (l : List Int) (n : Nat) (h : n < l.length) : rd l n ∈ l := by
  have e : rd l n = l[n] := by simp [rd, h]
  rw [e]
  exact List.getElem_mem h
theorem cavilref07_Text.tl_top (l : List Int) : ∀ n j, cavilref07_trim.tl l n = j + 1 → rd l j ≠ 0
  | 0, j, h => by simp [cavilref07_trim.tl] at h
  | n + 1, j, h => by
    rw [cavilref07_trim.tl] at h
    split at h
    · exact cavilref07_Text.tl_top l n j h
    · rename_i hz
      obtain rfl : n = j := by omega
      exact hz
theorem cavilref07_Text.val_pos {l : List Int} (h : cavilref07_Text.fine l) (hp : 0 < l.length) : 0 < cavilref07_Text.val l := by
  rcases Nat.eq_zero_or_pos (cavilref07_Text.val l) with e | e
  · exfalso
    obtain ⟨j, hj⟩ : ∃ j, l.length = j + 1 := ⟨l.length - 1, by omega⟩
    exact cavilref07_Text.tl_top l l.length j (h.2.1.trans hj) (cavilref07_Text.val_zero l (fun x hx => (h.1 x hx).1) e _ (cavilref07_Text.rd_mem l j (by omega)))
  · exact e
theorem cavilref07_Text.val_tl (l : List Int) : ∀ n, n ≤ l.length → cavilref07_Text.val (l.take (cavilref07_trim.tl l n)) = cavilref07_Text.val (l.take n)
  | 0, _ => rfl
  | n + 1, hn => by
    rw [cavilref07_trim.tl]
    split
    · rename_i hz
      have e : rd l n = l[n] := by simp [rd, show n < l.length by omega]
      rw [cavilref07_Text.val_tl l n (by omega), List.take_add_one, cavilref07_Text.val_app, List.getElem?_eq_getElem (by omega), ← e, hz]
      simp [cavilref07_Text.val]
    · rfl
theorem cavilref07_Text.tl_take (l : List Int) (n : Nat) (hn : n ≤ l.length) : cavilref07_trim.tl (l.take (cavilref07_trim.tl l n)) (cavilref07_trim.tl l n) = cavilref07_trim.tl l n := by
  have hle := cavilref07_trim.tl_le l n
  cases hk : cavilref07_trim.tl l n with
  | zero => rfl
  | succ j =>
    have h1 := cavilref07_Text.tl_top l n j hk
    have e : rd (l.take (j + 1)) j = rd l j := by simp [rd, show j < l.length by omega]
    rw [cavilref07_trim.tl, if_neg (by rw [e]; exact h1)]
/-- Division by ten from the highest digit on, and what is left. -/
def cavilref07_Text.divs : List Int → List Int × Int
  | [] => ([], 0)
  | x :: l => (((cavilref07_Text.divs l).2 * 65536 + x) / 10 :: (cavilref07_Text.divs l).1, ((cavilref07_Text.divs l).2 * 65536 + x) % 10)
theorem cavilref07_Text.divs_len : ∀ l, (cavilref07_Text.divs l).1.length = l.length
  | [] => rfl
  | x :: l => by rw [cavilref07_Text.divs, List.length_cons, List.length_cons, cavilref07_Text.divs_len l]
theorem cavilref07_Text.divs_fine : ∀ l : List Int, (∀ x ∈ l, 0 ≤ x ∧ x < 65536) → (0 ≤ (cavilref07_Text.divs l).2 ∧ (cavilref07_Text.divs l).2 ≤ 9) ∧ (∀ x ∈ (cavilref07_Text.divs l).1, 0 ≤ x ∧ x < 65536) ∧ (cavilref07_Text.val l : Int) = 10 * (cavilref07_Text.val (cavilref07_Text.divs l).1 : Int) + (cavilref07_Text.divs l).2
  | [], _ => ⟨⟨by decide, by decide⟩, fun x hx => absurd hx (by simp [cavilref07_Text.divs]), rfl⟩
  | x :: l, h => by
    obtain ⟨⟨h1, h2⟩, h3, h4⟩ := cavilref07_Text.divs_fine l fun y hy => h y (List.mem_cons_of_mem _ hy)
    have hx := h x (List.mem_cons_self ..)
    rw [cavilref07_Text.divs, cavilref07_Text.val, cavilref07_Text.val]
    refine ⟨by constructor <;> (simp only; omega), fun y hy => ?_, by simp only; omega⟩
    rcases List.mem_cons.1 hy with rfl | hy
    · omega
    · exact h3 y hy
/-- The number's numeral. -/
def cavilref07_Text.f (a0_0 : Bool) (l0_1 : List Int) : Option ByteArray := if cavilref07_Text.fine l0_1 then some ⟨((if a0_0 = true ∧ 0 < l0_1.length then [45] else []) ++ Lib.decDigits (cavilref07_Text.val l0_1)).toArray⟩ else none
theorem cavilref07_Text.field1 (x y : Value) (w : World) : Sem.run Tryd.prog (Instr.field 93 (.agg #[x, y]) 1) w = .ok y w := by kernel_rfl
theorem cavilref07_Text.dg : ∀ r : Fin 10, (⟨#[48, 49, 50, 51, 52, 53, 54, 55, 56, 57]⟩ : ByteArray).extract r.val (r.val + 1) = ⟨[UInt8.ofNat (48 + r.val)].toArray⟩ := by decide +kernel
theorem cavilref07_Text.dec_len (u : Nat) (h : u < 18446744073709551616) : (Lib.decDigits u).length ≤ 20 := by
  rw [Lib.decDigits_length]
  rcases Nat.eq_zero_or_pos u with rfl | hu
  · rw [Lib.nDigits_small (by omega)]; omega
  · have := Lib.numDigits_eq u hu h
    split at this <;> omega
theorem cavilref07_Text.neg (s : List UInt8) : (⟨#[45]⟩ : ByteArray) ++ (⟨s.toArray⟩ : ByteArray) = ⟨(45 :: s).toArray⟩ := by
  apply ByteArray.ext
  rw [ByteArray.data_append]
  simp
/-- What is still to be written, ahead of what has been written. -/
def cavilref07_Text.rest (v : Nat) (sx : List UInt8) : List UInt8 := if v = 0 then sx else Lib.decDigits v ++ sx
theorem cavilref07_Text.rest_step (v : Nat) (hv : 0 < v) (sx : List UInt8) : cavilref07_Text.rest (v / 10) (UInt8.ofNat (48 + v % 10) :: sx) = cavilref07_Text.rest v sx := by
  unfold cavilref07_Text.rest
  rw [if_neg (show ¬ v = 0 by omega)]
  by_cases h : v < 10
  · rw [if_pos (by omega), Lib.decDigits_one h, show v % 10 = v by omega]
    rfl
  · have e : Lib.decDigits v = Lib.decDigits (v / 10) ++ [UInt8.ofNat (48 + v % 10)] := by
      conv => lhs; rw [Lib.decDigits]
      rw [dif_neg h]
    rw [if_neg (by omega), e]
    simp
theorem cavilref07_Text.cat (r : Nat) (hr : r < 10) (sx : List UInt8) : (⟨#[48, 49, 50, 51, 52, 53, 54, 55, 56, 57]⟩ : ByteArray).extract r (r + 1) ++ (⟨sx.toArray⟩ : ByteArray) = ⟨(UInt8.ofNat (48 + r) :: sx).toArray⟩ := by
  rw [cavilref07_Text.dg ⟨r, hr⟩]
  apply ByteArray.ext
  rw [ByteArray.data_append]
  simp
theorem cavilref07_Text.few (rn k : Nat) (h : k ≤ 20) : (9223372036854775807 < min (rn + 1) 10 - rn + k) = False := eq_false (by omega)
set_option maxHeartbeats 4000000 in
set_option maxRecDepth 100000 in
theorem cavilref07_Text.walk0 (a0 : Bool) (A : Option Addr) (c : Nat) (w : World) :
    Calls Tryd.prog 57 #[.agg #[.bool a0, .slice A 0 c]] w fun e w' => e = .returned (.string ⟨#[48]⟩) ∧ Below w.heap.size w w' := by
  have hu := Tryd.underlying93
  go_enter Tryd.func57, Tryd.ntmps57
  go_wp2_with (first
    | ((with_reducible refine gate_dst (N := 1) rfl ?_); refine box_event ?hg (N := 1) ?hd (cs := #[.bool a0, .slice A 0 c]) (t := 93) ?hr ?_; (case hd => rfl); (case hg => rfl); (case hr => first | (go_simp; done) | (go_simp; rfl)); intro gb egb w2 hxb hbb; have XB := Aside0.mk hxb; have BB := Aside0.mk hbb; have GE := Aside0.mk (Nat.le_of_eq egb.symm); have GN := Aside0.mk (blk_lt hxb); have qb0 := blk_cell hxb 0; have qb1 := blk_cell hxb 1; have zb0 := blk_frozen hxb 0; have zb1 := blk_frozen hxb 1; simp only [List.getElem?_toArray, List.getElem?_cons_zero, List.getElem?_cons_succ] at qb0 qb1; clear hxb hbb egb))
  go_ret
  exact ⟨rfl, BB.out⟩
set_option maxHeartbeats 8000000 in
set_option maxRecDepth 100000 in
theorem cavilref07_Text.walk (a0 : Bool) (A : Option Addr) (c : Nat) (l : List Int) (w : World) (hr : Kd.C (Kd.int .i64) w A l.length l) (hf : cavilref07_Text.fine l) (hp : 0 < l.length) :
    Calls Tryd.prog 57 #[.agg #[.bool a0, .slice A l.length c]] w fun e w' => e = .returned (.string ⟨((if a0 = true then [45] else []) ++ Lib.decDigits (cavilref07_Text.val l)).toArray⟩) ∧ Below w.heap.size w w' := by
  have hu := Tryd.underlying93
  have d0 : decide ((l.length : Int) = 0) = false := decide_eq_false (by omega)
  have e0 : ((l.length : Int) == 0) = false := beq_eq_false_iff_ne.mpr (by omega)
  have HP := Aside0.mk (⟨hp, hf.2.2.1⟩ : 0 < l.length ∧ l.length ≤ 1000)
  have HF := Aside0.mk hf
  have HR := Aside0.mk hr
  have L0 : (l.length = 0) = False := eq_false (by omega)
  have L1 : l ≠ [] := by intro h; rw [h] at hp; exact absurd hp (by decide)
  clear hr hf hp
  obtain ⟨N, hN⟩ : ∃ N, N = cavilref07_Text.val l := ⟨_, rfl⟩
  have HN := Aside0.mk hN
  rw [← hN]
  clear hN
  go_enter Tryd.func57, Tryd.ntmps57
  go_wp2_with (first
    | ((with_reducible refine gate_dst (N := 1) rfl ?_); refine box_event ?hg (N := 1) ?hd (cs := #[.bool a0, .slice A l.length c]) (t := 93) ?hr ?_; (case hd => rfl); (case hg => rfl); (case hr => first | (go_simp; done) | (go_simp; rfl)); intro gb egb w2 hxb hbb; have XB := Aside0.mk hxb; have BB := Aside0.mk hbb; have GE := Aside0.mk (Nat.le_of_eq egb.symm); have GN := Aside0.mk (blk_lt hxb); have qb0 := blk_cell hxb 0; have qb1 := blk_cell hxb 1; have zb0 := blk_frozen hxb 0; have zb1 := blk_frozen hxb 1; simp only [List.getElem?_toArray, List.getElem?_cons_zero, List.getElem?_cons_succ] at qb0 qb1; clear hxb hbb egb)
    | ((with_reducible refine gate_dst (N := 13) rfl ?_); refine Kd.R_lit (Kd.int .i64) (w0 := w) w.heap.size 3 ?hg (N := 13) ?hd (xs := ([] : List Int)) (inner := []) (ok := fun k => k ≠ gb) (okp := fun k => k ≠ gb) ?hr ?hp (fun _ hk => hk) ?hf BB.out BB.out.size (by simp) ?_; (case hd => rfl); (case hg => rfl); (case hr => first | (go_simp; done) | (go_simp; rfl)); (case hp => exact (Reps.none _ _)); (case hf => have := GN.out; omega); intro v3 w3 ho3 hb3 hg3 hn3; have hx3 := (hg3.block gb GN.out (by simp)).trans XB.out; have X3 := Aside0.mk hx3; have B3 := Aside0.mk hb3; have O3 := Aside0.mk ho3; have rb0 := blk_cell hx3 0; have rb1 := blk_cell hx3 1; have yb0 := blk_frozen hx3 0; have yb1 := blk_frozen hx3 1; simp only [List.getElem?_toArray, List.getElem?_cons_zero, List.getElem?_cons_succ] at rb0 rb1; clear hb3 hx3 ho3 hg3 hn3)
    | ((with_reducible refine gate_builtin (b := .append) (xs := #[.tmp 13, .tmp 15]) rfl ?_); at_builtin; refine Kd.R_append_row (Value.int .i64) (0 : Int) (w0 := w) w.heap.size rfl (.tmp 13) (.tmp 15) 28 3 (.int .i64 0) 8 rfl Tryd.underlying28 info3 rfl (by decide) v3 [] l _ _ _ (fun k => k ≠ gb) rfl rfl ?aF O3.out ?aR B3.out B3.out.size (by have := HP.out; simp; omega) ?_; (case aF => intro k hk; have := blk_lt X3.out; omega); (case aR => exact Kd.C_below HR.out B3.out); intro v4 w4 ho4 hb4 hg4 hat4; have hx4 := (hg4.block gb (blk_lt X3.out) (fun e => (O3.out).1 gb e.symm rfl)).trans X3.out; have X4 := Aside0.mk hx4; have B4 := Aside0.mk hb4; have O4 := Aside0.mk (show (Kd.int .i64).R 3 w4 w.heap.size (fun k => k ≠ gb) v4 l from ho4); clear hx4 hb4 ho4 hg4 hat4))
  obtain ⟨h, cp, rfl, hbase, _, _⟩ := Kd.R_form O4.out HP.out.1
  have HX := Aside0.mk (⟨hbase, fun e => (O4.out).1 h rfl e⟩ : w.heap.size ≤ h ∧ h ≠ gb)
  clear hbase
  go_loopg [4, 5] N (fun kq v4 v5 w' => ∃ (sx : List UInt8) (m : List Int), v4 = .string ⟨sx.toArray⟩ ∧ v5 = .slice (some ⟨h, 0, none⟩) m.length cp ∧ Aside0 (kq = cavilref07_Text.val m ∧ cavilref07_Text.fine m) ∧ Aside0 (cavilref07_Text.rest (cavilref07_Text.val m) sx = Lib.decDigits N) ∧ Aside0 ((Kd.int .i64).R 3 w' w.heap.size (fun k => k ≠ gb) (.slice (some ⟨h, 0, none⟩) m.length cp) m) ∧ Aside0 (Below w.heap.size w w') ∧ Aside0 (w'.heap[gb]? = some (.cells #[.bool a0, .slice A l.length c] 93 (0, 0))))
  case atStart =>
    refine ⟨[], l, rfl, rfl, ⟨HN.out, HF.out⟩, ⟨?_⟩, O4, B4, X4⟩
    have := cavilref07_Text.val_pos HF.out HP.out.1
    unfold cavilref07_Text.rest
    rw [if_neg (by omega), List.append_nil, HN.out]
  case round =>
    have hN20 : (Lib.decDigits N).length ≤ 20 := by rw [HN.out]; exact cavilref07_Text.dec_len _ HF.out.2.2.2
    have HN20 := Aside0.mk hN20
    clear hN20 O4 B4 X4 O3 B3 X3 XB BB GE GN qb0 qb1 zb0 zb1 rb0 rb1 yb0 yb1
    obtain ⟨sx, m, rfl, rfl, HM, HS, HR4, HB, HG⟩ := hrel
    rcases Nat.eq_zero_or_pos m.length with hm0 | hm0
    · have hm1 : m = [] := List.length_eq_zero_iff.1 hm0
      subst hm1
      have hs := HS.out
      have hv : cavilref07_Text.val [] = 0 := rfl
      unfold cavilref07_Text.rest at hs
      rw [if_pos hv] at hs
      subst hs
      have qb0 := blk_cell HG.out 0
      simp only [List.getElem?_toArray, List.getElem?_cons_zero, List.getElem?_cons_succ] at qb0
      have hcat : (9223372036854775807 < 1 + (Lib.decDigits N).length) = False := eq_false (by have := HN20.out; omega)
      clear hv hm0
      cases a0
      · go_wp2
        go_ret
        exact ⟨rfl, HB.out⟩
      · go_wp2
        go_ret
        refine ⟨?_, HB.out⟩
        exact congrArg (fun x => Ending.returned (Value.string x)) (cavilref07_Text.neg _)
    · have w0 : wrap64 ((m.length : Int) - 1) = (m.length : Int) - 1 := by have := HM.out.2.2.2.1; unfold wrap64; omega
      have dm : decide (0 < (m.length : Int)) = true := decide_eq_true (by omega)
      have dm2 : decide (0 < m.length) = true := decide_eq_true hm0
      have M0 := Aside0.mk hm0
      clear hm0
      go_wp2
      obtain ⟨W0, rfl⟩ : ∃ W0, W0 = wr := ⟨wr, rfl⟩
      go_loopg [6, 7] m.length (fun kq v6 v7 w' => v6 = .int .i64 (cavilref07_Text.divs (m.drop kq)).2 ∧ v7 = .int .i64 ((kq : Int) - 1) ∧ Aside0 (kq ≤ m.length) ∧ Aside0 ((Kd.int .i64).R 3 w' w.heap.size (fun k => k ≠ gb) (.slice (some ⟨h, 0, none⟩) m.length cp) (m.take kq ++ (cavilref07_Text.divs (m.drop kq)).1)) ∧ Aside0 (Below w.heap.size w w') ∧ Aside0 (w'.heap[gb]? = some (.cells #[.bool a0, .slice A l.length c] 93 (0, 0))))
      case atStart =>
        refine ⟨by rw [List.drop_length]; rfl, by rw [w0], ⟨Nat.le_refl _⟩, ⟨?_⟩, HB, HG⟩
        rw [List.drop_length, List.take_length]
        show (Kd.int .i64).R 3 _ w.heap.size (fun k => k ≠ gb) (.slice (some ⟨h, 0, none⟩) m.length cp) (m ++ [])
        rw [List.append_nil]
        exact HR4.out
      case round =>
        clear HR4 HB HG
        obtain ⟨rfl, rfl, HK, HQ, HB, HG⟩ := hrel
        rcases gk with _ | j
        · have hfm := HM.out.2
          have hq := HQ.out
          obtain ⟨r, hrr⟩ : ∃ r, r = (cavilref07_Text.divs m).2 := ⟨_, rfl⟩
          obtain ⟨q, hqq⟩ : ∃ q, q = (cavilref07_Text.divs m).1 := ⟨_, rfl⟩
          obtain ⟨⟨r0, r9⟩, hqf, hval⟩ := cavilref07_Text.divs_fine m hfm.1
          have hql := cavilref07_Text.divs_len m
          have hq2 : (Kd.int .i64).R 3 wr w.heap.size (fun k => k ≠ gb) (.slice (some ⟨h, 0, none⟩) m.length cp) q := by rw [hqq]; exact hq
          rw [← hqq] at hqf hval hql
          rw [← hrr] at r0 r9 hval
          have hrr2 : (cavilref07_Text.divs (List.drop 0 m)).2 = r := hrr.symm
          rw [hrr2]
          have hv0 := cavilref07_Text.val_pos hfm M0.out
          have hs := HS.out
          have hN20 := HN20.out
          have hsz : sx.length ≤ 20 := by
            have e := congrArg List.length hs
            unfold cavilref07_Text.rest at e
            rw [if_neg (by omega), List.length_append] at e
            omega
          obtain ⟨rn, hrn⟩ : ∃ rn : Nat, r = (rn : Int) := ⟨r.toNat, by omega⟩
          subst hrn
          have b0 : (0 ≤ (rn : Int)) = True := eq_true r0
          have b1 : ((rn : Int) ≤ (rn : Int) + 1) = True := eq_true (by omega)
          have b2 : ((rn : Int) + 1 ≤ 10) = True := eq_true (by omega)
          have b3 : (0 ≤ (rn : Int) + 1) = True := eq_true (by omega)
          have d0 : decide (0 ≤ (rn : Int)) = true := decide_eq_true r0
          have d2 : decide ((rn : Int) + 1 ≤ 10) = true := decide_eq_true (by omega)
          have w1 : wrap64 ((rn : Int) + 1) = (rn : Int) + 1 := by unfold wrap64; omega
          have SZ := Aside0.mk hsz
          have FAC := Aside0.mk (⟨hqf, hval, hql, hv0, r9, hs, hq2, hfm⟩ : (∀ x ∈ q, 0 ≤ x ∧ x < 65536) ∧ (cavilref07_Text.val m : Int) = 10 * (cavilref07_Text.val q : Int) + (rn : Int) ∧ q.length = m.length ∧ 0 < cavilref07_Text.val m ∧ (rn : Int) ≤ 9 ∧ cavilref07_Text.rest (cavilref07_Text.val m) sx = Lib.decDigits N ∧ (Kd.int .i64).R 3 wr w.heap.size (fun k => k ≠ gb) (.slice (some ⟨h, 0, none⟩) m.length cp) q ∧ cavilref07_Text.fine m)
          have n1 : ((rn : Int) + 1).toNat = rn + 1 := rfl
          have hcat3 : (9223372036854775807 < min (rn + 1) 10 - rn + sx.length) = False := cavilref07_Text.few rn sx.length SZ.out
          clear hfm hq hrr hqq r0 r9 hqf hval hql hq2 hrr2 hv0 hs hN20 hsz
          go_wp2_with (first | (go_at_call 86; refine Hid.out ?_))
          refine Lib.hid ?_
          obtain ⟨hqf, hval, hql, hv0, r9, hs, hq2, hfm⟩ := FAC.out
          obtain ⟨_, hcp, hC⟩ := Kd.R_reads' hq2
          rw [← hql] at hcp hq2 ⊢
          have hle := cavilref07_trim.tl_le q q.length
          refine (cavilref07_trim.raw false (some ⟨h, 0, none⟩) cp q _ hC hcp (Kd.C_max hC)).mono ?_
          rintro e w3 ⟨rfl, hb3⟩
          simp only [Bool.false_and]
          have hb1 := HB.out.trans (hb3.mono HB.out.size)
          have hg1 := blk_below HG.out hb3
          have hp1 := Kd.R_below (Kd.R_take hq2 hle) hb3
          have htl : (q.take (cavilref07_trim.tl q q.length)).length = cavilref07_trim.tl q q.length := by rw [List.length_take]; omega
          have hvt := cavilref07_Text.val_tl q q.length (Nat.le_refl _)
          rw [List.take_length] at hvt
          have htt := cavilref07_Text.tl_take q q.length (Nat.le_refl _)
          obtain ⟨n, hn⟩ : ∃ n, n = cavilref07_trim.tl q q.length := ⟨_, rfl⟩
          rw [← hn] at hp1 htl hvt htt hle ⊢
          obtain ⟨m', hm'⟩ : ∃ m', m' = q.take n := ⟨_, rfl⟩
          rw [← hm'] at hp1 htl hvt htt
          have hvm : cavilref07_Text.val m' = cavilref07_Text.val m / 10 ∧ rn = cavilref07_Text.val m % 10 := by rw [hvt]; omega
          have hfm2 : cavilref07_Text.fine m' := ⟨fun x hx => hqf x (by rw [hm'] at hx; exact List.mem_of_mem_take hx), by rw [htl]; exact htt, by have := hfm.2.2.1; omega, by have := hfm.2.2.2; have := hvm.1; omega⟩
          have hrest : cavilref07_Text.rest (cavilref07_Text.val m') (UInt8.ofNat (48 + rn) :: sx) = Lib.decDigits N := by rw [hvm.1, hvm.2, cavilref07_Text.rest_step _ hv0]; exact hs
          rw [← htl] at hp1 ⊢
          have hlt : cavilref07_Text.val m' < cavilref07_Text.val m := by have := hvm.1; omega
          have B1 := Aside0.mk hb1
          have G1 := Aside0.mk hg1
          have P1 := Aside0.mk hp1
          have F1 := Aside0.mk hfm2
          have S1 := Aside0.mk hrest
          have LT := Aside0.mk hlt
          have RN := Aside0.mk (show rn < 10 by omega)
          have hf := cavilref07_Text.field1 (.bool false) (.slice (some ⟨h, 0, none⟩) m'.length cp) w3
          clear hqf hval hql hv0 r9 hs hq2 hfm hcp hC hle hb3 hb1 hg1 hp1 htl hvt htt hn hm' hvm hfm2 hrest hlt FAC
          go_wp2
          go_roundg (cavilref07_Text.val m')
          case measure => have := HM.out.1; have := LT.out; omega
          case rel =>
            refine ⟨UInt8.ofNat (48 + rn) :: sx, m', ?_, rfl, ⟨rfl, F1.out⟩, S1, P1, B1, G1⟩
            exact congrArg Value.string (cavilref07_Text.cat rn RN.out sx)
        · have hk := HK.out
          have hq := HQ.out
          have hfm := HM.out.2
          have hml := hfm.2.2.1
          obtain ⟨x, hx⟩ : ∃ x, x = m[j] := ⟨_, rfl⟩
          have hdrop : m.drop j = x :: m.drop (j + 1) := by rw [hx]; exact List.drop_eq_getElem_cons (by omega)
          obtain ⟨r, hrr⟩ : ∃ r, r = (cavilref07_Text.divs (m.drop (j + 1))).2 := ⟨_, rfl⟩
          obtain ⟨q, hqq⟩ : ∃ q, q = (cavilref07_Text.divs (m.drop (j + 1))).1 := ⟨_, rfl⟩
          have hfd := (cavilref07_Text.divs_fine (m.drop (j + 1)) fun y hy => hfm.1 y (List.mem_of_mem_drop hy)).1
          have hxr := hfm.1 x (by rw [hx]; exact List.getElem_mem _)
          rw [← hqq] at hq
          rw [← hrr] at hfd ⊢
          have hdv : cavilref07_Text.divs (m.drop j) = ((r * 65536 + x) / 10 :: q, (r * 65536 + x) % 10) := by rw [hdrop, cavilref07_Text.divs, ← hrr, ← hqq]
          have hrd : (rdOf (0 : Int) (m.take (j + 1) ++ q) j) = x := by
            have e : (m.take (j + 1) ++ q)[j]? = some m[j] := by rw [List.getElem?_append_left (by rw [List.length_take]; omega), List.getElem?_take_of_lt (by omega), List.getElem?_eq_getElem (by omega)]
            rw [hx]
            simp [rdOf, e]
          have hc0 := Kd.R_celln (0 : Int) hq (j : Int) (by omega) (by omega)
          rw [hrd, Int.toNat_natCast] at hc0
          have q0 : wr.cell? ⟨h, j, none⟩ = some (.int .i64 x) := hc0.1
          have z0 : wr.frozen? ⟨h, j, none⟩ = false := hc0.2
          obtain ⟨y, hy⟩ : ∃ y, y = r * 65536 + x := ⟨_, rfl⟩
          obtain ⟨u, hu'⟩ : ∃ u, u = y / 10 := ⟨_, rfl⟩
          obtain ⟨r', hr'⟩ : ∃ r', r' = y % 10 := ⟨_, rfl⟩
          have t0 : wrap64 (r * 65536) = r * 65536 := by unfold wrap64; omega
          have t1 : wrap64 (r * 65536 + x) = y := by unfold wrap64; omega
          have t2 : y.tdiv 10 = u := by rw [hu']; exact Int.tdiv_eq_ediv_of_nonneg (by omega)
          have t3 : wrap64 u = u := by unfold wrap64; omega
          have t4 : y.tmod 10 = r' := by rw [hr']; exact Int.tmod_eq_emod_of_nonneg (by omega)
          have p1 : (0 ≤ (j : Int)) = True := eq_true (by omega)
          have p2 : ((j : Int) < (m.length : Int)) = True := eq_true (by omega)
          have p3 : (j < m.length) = True := eq_true (by omega)
          have w1 : wrap64 (((j + 1 : Nat) : Int) - 1) = (j : Int) := by unfold wrap64; omega
          have w2' : wrap64 ((j : Int) - 1) = (j : Int) - 1 := by unfold wrap64; omega
          have w3' : ((j + 1 : Nat) : Int) - 1 = (j : Int) := by omega
          have hput := Kd.R_putn hq (j : Int) u
          rw [Int.toNat_natCast] at hput
          have hset : (m.take (j + 1) ++ q).set j u = m.take j ++ (cavilref07_Text.divs (m.drop j)).1 := by
            rw [hdv, List.take_add_one, List.getElem?_eq_getElem (by omega)]
            show (m.take j ++ [m[j]] ++ q).set j u = m.take j ++ (_ :: q)
            rw [List.append_assoc, List.set_append, if_neg (by rw [List.length_take]; omega), List.length_take, Nat.min_eq_left (by omega), Nat.sub_self, ← hy, ← hu']
            rfl
          rw [hset] at hput
          have hb1 := HB.out.setCell (p := ⟨h, j, none⟩) HX.out.1 (.int .i64 u)
          have hg1 := blk_far HG.out (p := ⟨h, j, none⟩) (fun e => HX.out.2 e.symm) (.int .i64 u)
          have RD := Aside0.mk (show (cavilref07_Text.divs (m.drop j)).2 = r' by rw [hdv]; show (r * 65536 + x) % 10 = r'; rw [← hy, ← hr'])
          have PU := Aside0.mk hput
          have B1 := Aside0.mk hb1
          have G1 := Aside0.mk hg1
          have HJ := Aside0.mk (show j ≤ m.length by omega)
          clear hk hq hfm hml hx hdrop hrr hqq hfd hxr hdv hrd hc0 hy hu' hr' hput hset hb1 hg1 HK HQ HB HG
          go_wp2
          go_roundg j
          case measure => omega
          case rel => exact ⟨by rw [RD.out], by rw [w2'], HJ, PU, B1, G1⟩
theorem cavilref07_Text.calls (a0_0 : Bool) (A0_1 : Option Addr) (c0_1 : Nat) (l0_1 : List Int) (r : ByteArray) (w : World) (hr0_1 : Kd.C (Kd.int .i64) w A0_1 l0_1.length l0_1) (hc0_1 : l0_1.length ≤ c0_1) (h : cavilref07_Text.f a0_0 l0_1 = some r) :
    Calls Tryd.prog 57 #[.agg #[.bool a0_0, .slice A0_1 l0_1.length c0_1]] w fun e w' => e = .returned (.string r) ∧ Below w.heap.size w w' := by
  unfold cavilref07_Text.f at h
  split at h
  case isFalse => cases h
  rename_i hf
  obtain rfl := Option.some.inj h
  rcases Nat.eq_zero_or_pos l0_1.length with h0 | h0
  · obtain rfl := List.length_eq_zero_iff.1 h0
    have e : ((if a0_0 = true ∧ 0 < ([] : List Int).length then [45] else []) ++ Lib.decDigits (cavilref07_Text.val [])) = [48] := by
      rw [if_neg (fun h => absurd h.2 (by decide))]
      exact Lib.decDigits_one (by decide)
    rw [e]
    exact cavilref07_Text.walk0 a0_0 A0_1 c0_1 w
  · have e : (if a0_0 = true ∧ 0 < l0_1.length then [45] else []) = (if a0_0 = true then [45] else ([] : List UInt8)) := by
      cases a0_0 <;> simp [h0]
    rw [e]
    exact cavilref07_Text.walk a0_0 A0_1 c0_1 l0_1 w hr0_1 hf h0
-- SELF cavil/cavilref07.Text

/-! ### cavilref07_digit: function 106 -/
def cavilref07_digit.f (l0 : List Int) (a1 : Int) : Option (Int) := if a1 < (l0.length : Int) then (if 0 ≤ a1 then (some (rd l0 a1)) else (none)) else (some 0)
set_option maxHeartbeats 8000000 in
set_option maxRecDepth 100000 in
theorem cavilref07_digit.calls (A0 : Option Addr) (c0 : Nat) (l0 : List Int) (a1 : Int) (r : Int) (w : World) (hr0 : Kd.C (Kd.int .i64) w A0 l0.length l0) (hc0 : l0.length ≤ c0) (h : cavilref07_digit.f l0 a1 = some r) :
    Calls Tryd.prog 106 #[.slice A0 l0.length c0, .int .i64 a1] w fun e w' => e = .returned (.int .i64 r) ∧ Drawn0 w w' := by
  have HR0 := Aside0.mk hr0
  have HC0 := Aside0.mk hc0
  clear hr0 hc0
  have H : (if a1 < (l0.length : Int) then (if 0 ≤ a1 then (some (rd l0 a1)) else (none)) else (some 0)) = some r := h
  clear h
  by_cases c3 : a1 < (l0.length : Int)
  · rw [if_pos c3] at H
    have c3b0 : decide (a1 < (l0.length : Int)) = true := decide_eq_true c3
    clear c3
    by_cases c4 : 0 ≤ a1
    · rw [if_pos c4] at H
      have c4b0 : decide (0 ≤ a1) = true := decide_eq_true c4
      clear c4
      obtain rfl := Option.some.inj H
      have p147 : 0 ≤ (a1 : Int) := of_decide_eq_true (by first | (with_reducible assumption) | assumption)
      have q147 : a1 < (l0.length : Int) := of_decide_eq_true (by first | (with_reducible assumption) | assumption)
      obtain ⟨ad147, e147, hx147_0⟩ := Kd.at_int HR0.out a1 p147 q147
      cases e147
      replace p147 := eq_true p147
      replace q147 := eq_true q147
      go_enter Tryd.func106, Tryd.ntmps106
      go_wp2
      go_ret
      exact ⟨by first | rfl | (simp; done) | (simp [*]; done), by repeat (first | exact Drawn0.refl _ | apply Drawn0.step)⟩
    · rw [if_neg c4] at H
      exact absurd H (by simp)
  · rw [if_neg c3] at H
    have c3b0 : decide (a1 < (l0.length : Int)) = false := decide_eq_false c3
    clear c3
    obtain rfl := Option.some.inj H
    go_enter Tryd.func106, Tryd.ntmps106
    go_wp2
    go_ret
    exact ⟨by first | rfl | (simp; done) | (simp [*]; done), by repeat (first | exact Drawn0.refl _ | apply Drawn0.step)⟩

/-! ### cavilref07_plus: function 87 -/
mutual
def cavilref07_plus.l0 : Nat → List Int → List Int → List Int → Int → Int → Option (List Int)
  | 0, _, _, _, _, _ => none
  | k + 1, x0, x1, x5, x6, x7 => if x7 < (x0.length : Int) then (cavilref07_plus.j1 k x0 x1 x5 x6 x7 true) else (if x7 < (x1.length : Int) then (cavilref07_plus.j1 k x0 x1 x5 x6 x7 true) else (cavilref07_plus.j1 k x0 x1 x5 x6 x7 (decide (x6 > 0))))
def cavilref07_plus.j1 : Nat → List Int → List Int → List Int → Int → Int → Bool → Option (List Int)
  | 0, _, _, _, _, _, _ => none
  | k + 1, x0, x1, x5, x6, x7, x22 => if x22 = true then ((cavilref07_digit.f x0 x7).bind fun t148 => ((cavilref07_digit.f x1 x7).bind fun t149 => (if x5.length < 17592186044416 then (cavilref07_plus.l0 k x0 x1 (x5 ++ [Int.tmod (wrap64 ((wrap64 (t148 + t149)) + x6)) 65536]) (wrap64 (Int.tdiv (wrap64 ((wrap64 (t148 + t149)) + x6)) 65536)) (wrap64 (x7 + 1))) else (none)))) else (some x5)
end
def cavilref07_plus.f (k : Nat) (l0 : List Int) (l1 : List Int) : Option (List Int) := cavilref07_plus.l0 k l0 l1 ([] : List Int) 0 0
theorem cavilref07_plus.mono_l : ∀ k, (∀ y0 y1 y2 y3 y4, LeO (cavilref07_plus.l0 k y0 y1 y2 y3 y4) (cavilref07_plus.l0 (k + 1) y0 y1 y2 y3 y4)) ∧ (∀ y0 y1 y2 y3 y4 y5, LeO (cavilref07_plus.j1 k y0 y1 y2 y3 y4 y5) (cavilref07_plus.j1 (k + 1) y0 y1 y2 y3 y4 y5))
  | 0 => ⟨fun _ _ _ _ _ r h => by simp [cavilref07_plus.l0] at h, fun _ _ _ _ _ _ r h => by simp [cavilref07_plus.j1] at h⟩
  | k + 1 => by
    obtain ⟨ih0, ih1⟩ := cavilref07_plus.mono_l k
    refine ⟨?_, ?_⟩
    · intro y0 y1 y2 y3 y4
      unfold cavilref07_plus.l0
      repeat' first
      | (with_reducible exact ih0 _ _ _ _ _)
      | (with_reducible exact ih1 _ _ _ _ _ _)
      | (with_reducible exact LeO.refl _)
      | (with_reducible exact LeO.none _)
      | (with_reducible refine LeO.ite ?_ ?_)
      | (with_reducible refine LeO.bind ?_ (fun _ => ?_))
      | exact ih0 _ _ _ _ _
      | exact ih1 _ _ _ _ _ _
      | exact LeO.none _
      | refine LeO.ite ?_ ?_
      | refine LeO.bind ?_ (fun _ => ?_)
    · intro y0 y1 y2 y3 y4 y5
      unfold cavilref07_plus.j1
      repeat' first
      | (with_reducible exact ih0 _ _ _ _ _)
      | (with_reducible exact ih1 _ _ _ _ _ _)
      | (with_reducible exact LeO.refl _)
      | (with_reducible exact LeO.none _)
      | (with_reducible refine LeO.ite ?_ ?_)
      | (with_reducible refine LeO.bind ?_ (fun _ => ?_))
      | exact ih0 _ _ _ _ _
      | exact ih1 _ _ _ _ _ _
      | exact LeO.none _
      | refine LeO.ite ?_ ?_
      | refine LeO.bind ?_ (fun _ => ?_)
theorem cavilref07_plus.mono : ∀ a0 a1 k, LeO (cavilref07_plus.f k a0 a1) (cavilref07_plus.f (k + 1) a0 a1) := by
  intro a0 a1 k
  obtain ⟨ih0, ih1⟩ := cavilref07_plus.mono_l k
  unfold cavilref07_plus.f
  repeat' first
      | (with_reducible exact ih0 _ _ _ _ _)
      | (with_reducible exact ih1 _ _ _ _ _ _)
      | (with_reducible exact LeO.refl _)
      | (with_reducible exact LeO.none _)
      | (with_reducible refine LeO.ite ?_ ?_)
      | (with_reducible refine LeO.bind ?_ (fun _ => ?_))
      | exact ih0 _ _ _ _ _
      | exact ih1 _ _ _ _ _ _
      | exact LeO.none _
      | refine LeO.ite ?_ ?_
      | refine LeO.bind ?_ (fun _ => ?_)
set_option maxHeartbeats 8000000 in
set_option maxRecDepth 100000 in
theorem cavilref07_plus.calls (k : Nat) (A0 : Option Addr) (c0 : Nat) (l0 : List Int) (A1 : Option Addr) (c1 : Nat) (l1 : List Int) (r : List Int) (w : World) (hr0 : Kd.C (Kd.int .i64) w A0 l0.length l0) (hc0 : l0.length ≤ c0) (hr1 : Kd.C (Kd.int .i64) w A1 l1.length l1) (hc1 : l1.length ≤ c1) (h : cavilref07_plus.f k l0 l1 = some r) :
    Calls Tryd.prog 87 #[.slice A0 l0.length c0, .slice A1 l1.length c1] w fun e w' => ∃ v0_ : Value, e = .returned (v0_) ∧ Kd.R (Kd.int .i64) 3 w' w.heap.size (fun _ => True) v0_ r ∧ Below w.heap.size w w' := by
  have HR0 := Aside0.mk hr0
  have HC0 := Aside0.mk hc0
  clear hr0 hc0
  have HR1 := Aside0.mk hr1
  have HC1 := Aside0.mk hc1
  clear hr1 hc1
  have HB := Aside0.mk (Below.refl w.heap.size w)
  have H : (cavilref07_plus.l0 k l0 l1 ([] : List Int) 0 0) = some r := h
  clear h
  have H' := Aside0.mk H
  clear H
  go_enter Tryd.func87, Tryd.ntmps87
  go_wp2
  go_loopg [5, 6, 7] k (fun kq v5 v6 v7 w' => ∃ (x5_1 : List Int) (x6_1 : Int) (x7_1 : Int), v6 = .int .i64 x6_1 ∧ v7 = .int .i64 x7_1 ∧ Aside0 (cavilref07_plus.l0 kq l0 l1 x5_1 x6_1 x7_1 = some r) ∧ Aside0 (kq ≤ k) ∧ Aside0 (Kd.R (Kd.int .i64) 3 w' w.heap.size (fun _ => True) v5 x5_1) ∧ Aside0 (Below w.heap.size w w'))
  case atStart => exact ⟨(([] : List Int)), (0), (0), (by first | rfl | (simp; done) | (simp [*]; done)), (by first | rfl | (simp; done) | (simp [*]; done)), H', ⟨Nat.le_refl _⟩, ⟨by first | exact Kd.R_nil _ _ _ _ _ | exact Kd.N_nil _ _ _ _ _ | exact Kd.V_nil _ _ _ _ _ | exact Kd.Q_nil _ _ _ _ _ | exact Kd.S_nil _ _ _ _ _⟩, ⟨by repeat (first | (with_reducible first | exact HB.out | apply below_alloc | apply pw_below_drewN | apply below_drew1) | exact HB.out)⟩⟩
  case round =>
    clear H'
    try clear c1
    try clear p2
    obtain ⟨x5_1, x6_1, x7_1, rfl, rfl, HA, HK1, HO_5, HB⟩ := hrel
    cases gk with
    | zero => exact absurd HA.out (by simp [cavilref07_plus.l0])
    | succ k1 =>
      have H := HA.out
      clear HA
      simp only [cavilref07_plus.l0] at H
      have HC3 := Aside0.mk H
      clear H
      go_upto_region 4 with (fail)
      go_cut [22] (fun v22 wc => ∃ (kq : Nat) (x22_2 : Bool), v22 = .bool x22_2 ∧ Aside0 (cavilref07_plus.j1 kq l0 l1 x5_1 x6_1 x7_1 x22_2 = some r) ∧ Aside0 (kq ≤ k1) ∧ Aside0 (Kd.R (Kd.int .i64) 3 wc w.heap.size (fun _ => True) u5 x5_1) ∧ Aside0 (Below w.heap.size w wc))
      case first =>
        have H := HC3.out
        clear HC3
        by_cases c4 : x7_1 < (l0.length : Int)
        · rw [if_pos c4] at H
          have c4b0 : decide (x7_1 < (l0.length : Int)) = true := decide_eq_true c4
          clear c4
          (first | rw [c4b0] | (simp only [i64_w, i32_w]; rw [c4b0]) | skip)
          have H' := Aside0.mk H
          clear H
          go_wp2
          go_meet
          case rel => exact ⟨_, (true), (by first | rfl | (simp; done) | (simp [*]; done)), H', ⟨by have := HK1.out; first | omega | exact Nat.le_refl _⟩, ⟨by (with_reducible repeat (first | apply Kd.R_alloc | apply Kd.R_drewN | apply Kd.R_drew)); exact HO_5.out⟩, ⟨by repeat (first | (with_reducible first | exact HB.out | apply below_alloc | apply pw_below_drewN | apply below_drew1) | exact HB.out)⟩⟩
        · rw [if_neg c4] at H
          have c4b0 : decide (x7_1 < (l0.length : Int)) = false := decide_eq_false c4
          clear c4
          (first | rw [c4b0] | (simp only [i64_w, i32_w]; rw [c4b0]) | skip)
          by_cases c5 : x7_1 < (l1.length : Int)
          · rw [if_pos c5] at H
            have c5b0 : decide (x7_1 < (l1.length : Int)) = true := decide_eq_true c5
            clear c5
            have H' := Aside0.mk H
            clear H
            go_wp2
            go_meet
            case rel => exact ⟨_, (true), (by first | rfl | (simp; done) | (simp [*]; done)), H', ⟨by have := HK1.out; first | omega | exact Nat.le_refl _⟩, ⟨by (with_reducible repeat (first | apply Kd.R_alloc | apply Kd.R_drewN | apply Kd.R_drew)); exact HO_5.out⟩, ⟨by repeat (first | (with_reducible first | exact HB.out | apply below_alloc | apply pw_below_drewN | apply below_drew1) | exact HB.out)⟩⟩
          · rw [if_neg c5] at H
            have c5b0 : decide (x7_1 < (l1.length : Int)) = false := decide_eq_false c5
            clear c5
            have H' := Aside0.mk H
            clear H
            go_wp2
            go_meet
            case rel => exact ⟨_, (decide (x6_1 > 0)), (by first | rfl | (simp; done) | (simp [*]; done)), H', ⟨by have := HK1.out; first | omega | exact Nat.le_refl _⟩, ⟨by (with_reducible repeat (first | apply Kd.R_alloc | apply Kd.R_drewN | apply Kd.R_drew)); exact HO_5.out⟩, ⟨by repeat (first | (with_reducible first | exact HB.out | apply below_alloc | apply pw_below_drewN | apply below_drew1) | exact HB.out)⟩⟩
      case rest =>
        clear HC3
        try clear c1
        try clear p2
        try clear c4
        try clear c4b0
        try clear c5
        try clear c5b0
        try clear p2
        obtain ⟨kq, x22_2, rfl, HA, HJ2, HO_5, HB⟩ := hcut
        cases kq with
        | zero => exact absurd HA.out (by simp [cavilref07_plus.j1])
        | succ kj2 =>
          have H := HA.out
          clear HA
          simp only [cavilref07_plus.j1] at H
          by_cases c6 : x22_2 = true
          · subst c6
            have H1 : ((cavilref07_digit.f l0 x7_1).bind fun t148 => ((cavilref07_digit.f l1 x7_1).bind fun t149 => (if x5_1.length < 17592186044416 then (cavilref07_plus.l0 kj2 l0 l1 (x5_1 ++ [Int.tmod (wrap64 ((wrap64 (t148 + t149)) + x6_1)) 65536]) (wrap64 (Int.tdiv (wrap64 ((wrap64 (t148 + t149)) + x6_1)) 65536)) (wrap64 (x7_1 + 1))) else (none)))) = some r := by rw [if_pos rfl] at H; exact H
            clear H
            have H := H1
            clear H1
            replace H := Option.bind_eq_some_iff.mp H
            obtain ⟨t148, A70, H⟩ := H
            replace H : ((cavilref07_digit.f l1 x7_1).bind fun t149 => (if x5_1.length < 17592186044416 then (cavilref07_plus.l0 kj2 l0 l1 (x5_1 ++ [Int.tmod (wrap64 ((wrap64 (t148 + t149)) + x6_1)) 65536]) (wrap64 (Int.tdiv (wrap64 ((wrap64 (t148 + t149)) + x6_1)) 65536)) (wrap64 (x7_1 + 1))) else (none))) = some r := H
            have A7 := Aside0.mk A70
            clear A70
            replace H := Option.bind_eq_some_iff.mp H
            obtain ⟨t149, A80, H⟩ := H
            replace H : (if x5_1.length < 17592186044416 then (cavilref07_plus.l0 kj2 l0 l1 (x5_1 ++ [Int.tmod (wrap64 ((wrap64 (t148 + t149)) + x6_1)) 65536]) (wrap64 (Int.tdiv (wrap64 ((wrap64 (t148 + t149)) + x6_1)) 65536)) (wrap64 (x7_1 + 1))) else (none)) = some r := H
            have A8 := Aside0.mk A80
            clear A80
            by_cases c9 : x5_1.length < 17592186044416
            · rw [if_pos c9] at H
              have LMc9 := Aside0.mk c9
              clear c9
              obtain ⟨y150, hy150⟩ : ∃ y_ : List Int, y_ = (x5_1 ++ [Int.tmod (wrap64 ((wrap64 (t148 + t149)) + x6_1)) 65536]) := ⟨_, rfl⟩
              replace H : (cavilref07_plus.l0 kj2 l0 l1 y150 (wrap64 (Int.tdiv (wrap64 ((wrap64 (t148 + t149)) + x6_1)) 65536)) (wrap64 (x7_1 + 1))) = some r := by first | (rw [hy150]; with_reducible exact H) | (have H2_ := (Option.bind_some _ _).symm.trans H; rw [hy150]; with_reducible exact H2_) | (have H2_ := (Option.bind_some _ _).symm.trans H; with_reducible exact H2_) | with_reducible exact H | (rw [hy150]; exact H) | exact H
              have Ny150 := Aside0.mk hy150
              clear hy150
              have H' := Aside0.mk H
              clear H
              go_wp2_with (first | ((with_reducible refine gate_callee (f := 106) rfl ?_); refine goesL_ (some 27) rfl rfl Tryd.func106 (by kernel_rfl) rfl #[.slice A0 l0.length c0, .int .i64 x7_1] rfl (by (try simp only [List.map_toArray, List.map_cons, List.map_nil]); first | done | rfl | (simp only [List.length_drop, List.length_take]; rfl)) ?_; (with_reducible refine (cavilref07_digit.calls _ _ l0 x7_1 t148 _ ?side1 ?side2 A7.out).mono ?_); (case side1 => repeat (first | exact (Kd.C_below HR0.out HB.out) | (with_reducible refine Kd.C_alloc ?_ _) | (with_reducible refine Kd.C_drewN ?_ _) | (with_reducible refine Kd.C_drew ?_))); (case side2 => exact HC0.out); rintro e w' ⟨rfl, ⟨nd, rfl⟩⟩; refine ⟨_, rfl, ?_⟩) | ((with_reducible refine gate_callee (f := 106) rfl ?_); refine goesL_ (some 30) rfl rfl Tryd.func106 (by kernel_rfl) rfl #[.slice A1 l1.length c1, .int .i64 x7_1] rfl (by (try simp only [List.map_toArray, List.map_cons, List.map_nil]); first | done | rfl | (simp only [List.length_drop, List.length_take]; rfl)) ?_; (with_reducible refine (cavilref07_digit.calls _ _ l1 x7_1 t149 _ ?side1 ?side2 A8.out).mono ?_); (case side1 => repeat (first | exact (Kd.C_below HR1.out (by repeat (first | (with_reducible first | exact HB.out | apply below_alloc | apply pw_below_drewN | apply below_drew1) | exact HB.out))) | (with_reducible refine Kd.C_alloc ?_ _) | (with_reducible refine Kd.C_drewN ?_ _) | (with_reducible refine Kd.C_drew ?_))); (case side2 => exact HC1.out); rintro e w' ⟨rfl, ⟨nd, rfl⟩⟩; refine ⟨_, rfl, ?_⟩) | ((with_reducible refine gate_builtin (b := .append) (xs := #[.tmp 34, .tmp 37]) rfl ?_); (try (refine gate_guard (by rfl) ?_; dsimp only)); at_builtin; refine Kd.R_append (Kd.int .i64) (w0 := w) w.heap.size rfl (.tmp 34) (.tmp 37) 28 3 (.int .i64 0) 8 rfl Tryd.underlying28 info3 rfl (by decide) (by omega) u5 x5_1 (Int.tmod (wrap64 ((wrap64 (t148 + t149)) + x6_1)) 65536) [.int .i64 (Int.tmod (wrap64 ((wrap64 (t148 + t149)) + x6_1)) 65536)] (fun _ => True) (fun _ => False) rfl rfl ?aP (fun _ hk => hk.elim) ?aF ?aO ?aB ?aS ?aL ?_; (case aP => exact rfl); (case aB => exact (by repeat (first | (with_reducible first | exact HB.out | apply below_alloc | apply pw_below_drewN | apply below_drew1) | exact HB.out))); (case aF => exact (fun _ _ => trivial)); (case aO => exact (by (with_reducible repeat (first | apply Kd.R_alloc | apply Kd.R_drewN | apply Kd.R_drew)); exact HO_5.out)); (case aS => exact (below_size (by repeat (first | (with_reducible first | exact HB.out | apply below_alloc | apply pw_below_drewN | apply below_drew1) | exact HB.out)))); (case aL => have := LMc9.out; omega); intro v151 w10 ho hb hg hat; rw [← Ny150.out] at ho; have n0_ := Aside0.mk (hb); have n1_ := Aside0.mk (ho); clear HB; clear HO_5; have HB := n0_; have HO152 := n1_; clear n0_ n1_; clear ho hb hg hat))
              go_roundg kj2
              case measure => have := HK1.out; have := HJ2.out; omega
              case rel => exact ⟨(y150), (wrap64 (Int.tdiv (wrap64 ((wrap64 (t148 + t149)) + x6_1)) 65536)), (wrap64 (x7_1 + 1)), (by first | rfl | (simp; done) | (simp [*]; done)), (by first | rfl | (simp; done) | (simp [*]; done)), H', ⟨by have := HK1.out; have := HJ2.out; omega⟩, ⟨by (with_reducible repeat (first | apply Kd.R_alloc | apply Kd.R_drewN | apply Kd.R_drew)); exact HO152.out⟩, ⟨by repeat (first | (with_reducible first | exact HB.out | apply below_alloc | apply pw_below_drewN | apply below_drew1) | exact HB.out)⟩⟩
            · rw [if_neg c9] at H
              exact absurd H (by simp)
          · replace c6 := Bool.eq_false_iff.mpr c6
            subst c6
            have H1 : (some x5_1) = some r := by rw [if_neg (show ¬ (false = true) by decide)] at H; exact H
            clear H
            have H := H1
            clear H1
            obtain rfl := Option.some.inj H
            go_wp2
            go_ret
            exact ⟨_, by first | rfl | (simp [errW_none, errW_some, erT_no, erV_no, erT_at, erV_at] <;> rfl) | (simp [*, errW_none, errW_some, erT_no, erV_no, erT_at, erV_at] <;> rfl), by (with_reducible repeat (first | apply Kd.R_alloc | apply Kd.R_drewN | apply Kd.R_drew)); exact HO_5.out, by repeat (first | (with_reducible first | exact HB.out | apply below_alloc | apply pw_below_drewN | apply below_drew1) | exact HB.out)⟩

end Go.Proofs.YtnpgadfoohjlnabDoor.QK
