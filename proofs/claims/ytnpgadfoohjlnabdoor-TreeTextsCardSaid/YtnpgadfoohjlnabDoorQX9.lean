/- Where a Lean function of this text answers, the Go function of its name comes to that answer: no other condition. Written by a program of this session out of the translation; Lean checks it. -/
import Derived.Test.YtnpgadfoohjlnabDoorQX0
import Derived.Test.YtnpgadfoohjlnabDoorQX8
namespace Go.Proofs.YtnpgadfoohjlnabDoor.QX
open Go.RowKit Go.Proofs.YtnpgadfoohjlnabDoorW.PrintWords Go.Proofs.YtnpgadfoohjlnabDoorW.PrintLast Go.Proofs.YtnpgadfoohjlnabDoorW.PrintMore Go.Proofs.YtnpgadfoohjlnabDoorW.PrintX
attribute [local go_sem] max2_int min2_int max_two min_two max_three min_three max_four min_four   -- for this text's walks alone
set_option linter.unusedVariables false
set_option linter.unusedSimpArgs false

/-! ### cavilref13_Owner: function 35 -/
def cavilref13_Owner.l0 : Nat → Int → Int → List (S34) → Option (Int)
  | 0, _, _, _ => none
  | k + 1, x1, x5, x204000 => if x5 < (x204000.length : Int) then ((cavilref13_Owns.f k x204000 x5 x1).bind fun t204 => (if t204 = true then (some x5) else (cavilref13_Owner.l0 k x1 (wrap64 (x5 + 1)) x204000))) else (some (-1))
def cavilref13_Owner.f (k : Nat) (l0_0 : List (S34)) (a1 : Int) : Option (Int) := cavilref13_Owner.l0 k a1 0 l0_0
theorem cavilref13_Owner.mono_l : ∀ k, (∀ y0 y1 y2, LeO (cavilref13_Owner.l0 k y0 y1 y2) (cavilref13_Owner.l0 (k + 1) y0 y1 y2))
  | 0 => fun _ _ _ r h => by simp [cavilref13_Owner.l0] at h
  | k + 1 => by
    have ih0 := cavilref13_Owner.mono_l k
    · intro y0 y1 y2
      unfold cavilref13_Owner.l0
      repeat' first
      | (with_reducible exact ih0 _ _ _)
      | (with_reducible exact cavilref13_Owns.mono _ _ _ _)
      | (with_reducible exact LeO.refl _)
      | (with_reducible exact LeO.none _)
      | (with_reducible refine LeO.ite ?_ ?_)
      | (with_reducible refine LeO.bind ?_ (fun _ => ?_))
      | exact ih0 _ _ _
      | exact cavilref13_Owns.mono _ _ _ _
      | exact LeO.none _
      | refine LeO.ite ?_ ?_
      | refine LeO.bind ?_ (fun _ => ?_)
theorem cavilref13_Owner.mono : ∀ a0 a1 k, LeO (cavilref13_Owner.f k a0 a1) (cavilref13_Owner.f (k + 1) a0 a1) := by
  intro a0 a1 k
  have ih0 := cavilref13_Owner.mono_l k
  unfold cavilref13_Owner.f
  repeat' first
      | (with_reducible exact ih0 _ _ _)
      | (with_reducible exact cavilref13_Owns.mono _ _ _ _)
      | (with_reducible exact LeO.refl _)
      | (with_reducible exact LeO.none _)
      | (with_reducible refine LeO.ite ?_ ?_)
      | (with_reducible refine LeO.bind ?_ (fun _ => ?_))
      | exact ih0 _ _ _
      | exact cavilref13_Owns.mono _ _ _ _
      | exact LeO.none _
      | refine LeO.ite ?_ ?_
      | refine LeO.bind ?_ (fun _ => ?_)
set_option maxHeartbeats 8000000 in
set_option maxRecDepth 100000 in
theorem cavilref13_Owner.calls (k : Nat) (A0_0 : Option Addr) (c0_0 : Nat) (l0_0 : List (S34)) (a1 : Int) (r : Int) (w : World) (hr0_0 : Kd.C k34 w A0_0 l0_0.length l0_0) (hc0_0 : l0_0.length ≤ c0_0) (h : cavilref13_Owner.f k l0_0 a1 = some r) :
    Calls Tryd.prog 35 #[.agg #[.slice A0_0 l0_0.length c0_0], .int .i64 a1] w fun e w' => e = .returned (.int .i64 r) ∧ Below w.heap.size w w' := by
  have hu24 := Tryd.underlying24
  have HR0_0 := Aside0.mk hr0_0
  have HC0_0 := Aside0.mk hc0_0
  clear hr0_0 hc0_0
  have HB := Aside0.mk (Below.refl w.heap.size w)
  have H : (cavilref13_Owner.l0 k a1 0 l0_0) = some r := h
  clear h
  have H' := Aside0.mk H
  clear H
  go_enter Tryd.func35, Tryd.ntmps35
  go_wp2_with (first | ((with_reducible refine gate_dst (N := 2) rfl ?_); refine box_event ?hg (N := 2) ?hd (cs := #[.slice A0_0 l0_0.length c0_0]) (t := 24) ?hr ?_; (case hd => rfl); (case hg => rfl); (case hr => first | (go_simp; done) | (go_simp; rfl)); intro gb203 hg w3 hbox hb; have n0_ := Aside0.mk (below_step (by repeat (first | (with_reducible first | exact HB.out | apply below_alloc | apply pw_below_drewN | apply below_drew1) | exact HB.out)) hb); have n1_ := Aside0.mk (hbox); have n2_ := Aside0.mk ((by rw [hg]; exact (below_size (by repeat (first | (with_reducible first | exact HB.out | apply below_alloc | apply pw_below_drewN | apply below_drew1) | exact HB.out))) : w.heap.size ≤ gb203)); have n3_ := Aside0.mk ((by rw [hg]; exact (below_size (by repeat (first | (with_reducible first | exact HB.out | apply below_alloc | apply pw_below_drewN | apply below_drew1) | exact HB.out))) : w.heap.size ≤ gb203)); clear HB; have HB := n0_; have BK203 := n1_; have GW203 := n2_; have GE203 := n3_; clear n0_ n1_ n2_ n3_; clear hb hbox hg))
  go_loopg [5] k (fun kq v5 w' => ∃ (x5_1 : Int), v5 = .int .i64 x5_1 ∧ Aside0 (cavilref13_Owner.l0 kq a1 x5_1 l0_0 = some r) ∧ Aside0 (kq ≤ k) ∧ Aside0 (w'.heap[gb203]? = some (.cells #[(.slice A0_0 l0_0.length c0_0)] 24 (0, 0))) ∧ Aside0 (Below w.heap.size w w'))
  case atStart => exact ⟨(0), (by first | rfl | (simp; done) | (simp [*]; done)), H', ⟨Nat.le_refl _⟩, ⟨by (with_reducible repeat (first | refine blk_drewN ?_ _ | refine blk_drew ?_ | refine blk_alloc ?_ _)); exact BK203.out⟩, ⟨by repeat (first | (with_reducible first | exact HB.out | apply below_alloc | apply pw_below_drewN | apply below_drew1 | refine below_set ?_ GE203.out) | exact HB.out)⟩⟩
  case round =>
    clear H'
    try clear p2
    try clear c3
    obtain ⟨x5_1, rfl, HA, HK1, BK203, HB⟩ := hrel
    cases gk with
    | zero => exact absurd HA.out (by simp [cavilref13_Owner.l0])
    | succ k1 =>
      have H := HA.out
      clear HA
      simp only [cavilref13_Owner.l0] at H
      by_cases c4 : x5_1 < (l0_0.length : Int)
      · rw [if_pos c4] at H
        have c4b0 : decide (x5_1 < (l0_0.length : Int)) = true := decide_eq_true c4
        clear c4
        replace H := Option.bind_eq_some_iff.mp H
        obtain ⟨t204, A50, H⟩ := H
        replace H : (if t204 = true then (some x5_1) else (cavilref13_Owner.l0 k1 a1 (wrap64 (x5_1 + 1)) l0_0)) = some r := H
        have A5 := Aside0.mk A50
        clear A50
        by_cases c6 : t204 = true
        · subst c6
          have H1 : (some x5_1) = some r := by rw [if_pos rfl] at H; exact H
          clear H
          have H := H1
          clear H1
          obtain rfl := Option.some.inj H
          have hcz7_0 : wr.cell? ⟨gb203, 0, none⟩ = some (.slice A0_0 l0_0.length c0_0) := (blk_cell BK203.out 0).trans rfl
          have hfz7_0 := blk_frozen BK203.out 0
          go_wp2_with (first | ((with_reducible refine gate_callee (f := 67) rfl ?_); refine goesL_ (some 16) rfl rfl Tryd.func67 (by kernel_rfl) rfl #[.agg #[.slice A0_0 l0_0.length c0_0], .int .i64 x5_1, .int .i64 a1] rfl (by (try simp only [List.map_toArray, List.map_cons, List.map_nil]); first | done | rfl | (simp only [List.length_drop, List.length_take]; rfl)) ?_; (with_reducible refine (cavilref13_Owns.calls k1 _ _ l0_0 x5_1 a1 true _ ?side1 ?side2 A5.out).mono ?_); (case side1 => repeat (first | exact (Kd.C_below HR0_0.out HB.out) | (with_reducible refine Kd.C_alloc ?_ _) | (with_reducible refine Kd.C_drewN ?_ _) | (with_reducible refine Kd.C_drew ?_))); (case side2 => exact HC0_0.out); rintro e w8 ⟨rfl, hb⟩; refine ⟨_, rfl, ?_⟩; have n0_ := Aside0.mk (blk_below (g := gb203) (o := .cells #[.slice A0_0 l0_0.length c0_0] 24 (0, 0)) (by (with_reducible repeat (first | refine blk_drewN ?_ _ | refine blk_drew ?_ | refine blk_alloc ?_ _)); exact BK203.out) hb); have n1_ := Aside0.mk (below_step (by repeat (first | (with_reducible first | exact HB.out | apply below_alloc | apply pw_below_drewN | apply below_drew1 | refine below_set ?_ GE203.out) | exact HB.out)) hb); clear BK203; clear HB; have BK203 := n0_; have HB := n1_; clear n0_ n1_; (try clear hb); (try clear hb2); (try clear hk); (try clear hi)))
          go_ret
          exact ⟨by first | rfl | (simp [errW_none, errW_some, erT_no, erV_no, erT_at, erV_at] <;> rfl) | (simp [*, errW_none, errW_some, erT_no, erV_no, erT_at, erV_at] <;> rfl), by repeat (first | (with_reducible first | exact HB.out | apply below_alloc | apply pw_below_drewN | apply below_drew1 | refine below_set ?_ GE203.out) | exact HB.out)⟩
        · replace c6 := Bool.eq_false_iff.mpr c6
          subst c6
          have H1 : (cavilref13_Owner.l0 k1 a1 (wrap64 (x5_1 + 1)) l0_0) = some r := by rw [if_neg (show ¬ (false = true) by decide)] at H; exact H
          clear H
          have H := H1
          clear H1
          have H' := Aside0.mk H
          clear H
          have hcz9_0 : wr.cell? ⟨gb203, 0, none⟩ = some (.slice A0_0 l0_0.length c0_0) := (blk_cell BK203.out 0).trans rfl
          have hfz9_0 := blk_frozen BK203.out 0
          go_wp2_with (first | ((with_reducible refine gate_callee (f := 67) rfl ?_); refine goesL_ (some 16) rfl rfl Tryd.func67 (by kernel_rfl) rfl #[.agg #[.slice A0_0 l0_0.length c0_0], .int .i64 x5_1, .int .i64 a1] rfl (by (try simp only [List.map_toArray, List.map_cons, List.map_nil]); first | done | rfl | (simp only [List.length_drop, List.length_take]; rfl)) ?_; (with_reducible refine (cavilref13_Owns.calls k1 _ _ l0_0 x5_1 a1 false _ ?side1 ?side2 A5.out).mono ?_); (case side1 => repeat (first | exact (Kd.C_below HR0_0.out HB.out) | (with_reducible refine Kd.C_alloc ?_ _) | (with_reducible refine Kd.C_drewN ?_ _) | (with_reducible refine Kd.C_drew ?_))); (case side2 => exact HC0_0.out); rintro e w10 ⟨rfl, hb⟩; refine ⟨_, rfl, ?_⟩; have n0_ := Aside0.mk (blk_below (g := gb203) (o := .cells #[.slice A0_0 l0_0.length c0_0] 24 (0, 0)) (by (with_reducible repeat (first | refine blk_drewN ?_ _ | refine blk_drew ?_ | refine blk_alloc ?_ _)); exact BK203.out) hb); have n1_ := Aside0.mk (below_step (by repeat (first | (with_reducible first | exact HB.out | apply below_alloc | apply pw_below_drewN | apply below_drew1 | refine below_set ?_ GE203.out) | exact HB.out)) hb); clear BK203; clear HB; have BK203 := n0_; have HB := n1_; clear n0_ n1_; (try clear hb); (try clear hb2); (try clear hk); (try clear hi)))
          go_roundg k1
          case measure => have := HK1.out; omega
          case rel => exact ⟨(wrap64 (x5_1 + 1)), (by first | rfl | (simp; done) | (simp [*]; done)), H', ⟨by have := HK1.out; omega⟩, ⟨by (with_reducible repeat (first | refine blk_drewN ?_ _ | refine blk_drew ?_ | refine blk_alloc ?_ _)); exact BK203.out⟩, ⟨by repeat (first | (with_reducible first | exact HB.out | apply below_alloc | apply pw_below_drewN | apply below_drew1 | refine below_set ?_ GE203.out) | exact HB.out)⟩⟩
      · rw [if_neg c4] at H
        have c4b0 : decide (x5_1 < (l0_0.length : Int)) = false := decide_eq_false c4
        clear c4
        obtain rfl := Option.some.inj H
        have hcz11_0 : wr.cell? ⟨gb203, 0, none⟩ = some (.slice A0_0 l0_0.length c0_0) := (blk_cell BK203.out 0).trans rfl
        have hfz11_0 := blk_frozen BK203.out 0
        go_wp2
        go_ret
        exact ⟨by first | rfl | (simp [errW_none, errW_some, erT_no, erV_no, erT_at, erV_at] <;> rfl) | (simp [*, errW_none, errW_some, erT_no, erV_no, erT_at, erV_at] <;> rfl), by repeat (first | (with_reducible first | exact HB.out | apply below_alloc | apply pw_below_drewN | apply below_drew1 | refine below_set ?_ GE203.out) | exact HB.out)⟩

-- NOT PRINTED: function 86 (cavilref07_trim)

-- NOT PRINTED: function 56 (cavilref07_Small)

-- NOT PRINTED: function 57 (cavilref07_Text)

/-! ### cavilref13_number: function 68 -/
set_option maxHeartbeats 4000000 in
set_option maxRecDepth 100000 in
theorem cavilref13_number.trim_nil (w : World) :
    Calls Tryd.prog 86 #[.bool false, .slice none 0 0] w fun e w' => e = .returned (.agg #[.bool false, .slice none 0 0]) ∧ Below w.heap.size w w' := by
  have hu := Tryd.underlying93
  go_enter Tryd.func86, Tryd.ntmps86
  go_wp2_with (first
    | ((with_reducible refine gate_dst (N := 4) rfl ?_); refine box_event ?hg (N := 4) ?hd (cs := #[.bool false, .slice none 0 0]) (t := 93) ?hr ?_; (case hd => rfl); (case hg => rfl); (case hr => first | (go_simp; done) | (go_simp; rfl)); intro gb egb w2 hxb hbb; have XB := Aside0.mk hxb; have BB := Aside0.mk hbb; have GE := Aside0.mk (Nat.le_of_eq egb.symm); have qb0 := blk_cell hxb 0; have qb1 := blk_cell hxb 1; have zb0 := blk_frozen hxb 0; have zb1 := blk_frozen hxb 1; simp only [List.getElem?_toArray, List.getElem?_cons_zero, List.getElem?_cons_succ] at qb0 qb1; clear hxb hbb egb))
  go_loopg [5] 0 (fun kq v5 w' => v5 = .int .i64 0 ∧ w' = w2)
  case atStart => exact ⟨rfl, rfl⟩
  case round =>
    obtain ⟨rfl, rfl⟩ := hrel
    go_wp2
    refine bodyPost_ret (results_cell_row rfl _ _ gb 93 #[.bool false, .slice none 0 0] (0, 0) _ rfl (blk_put (blk_put XB.out 0 (.bool false) rfl) 1 (.slice none 0 0) rfl) Tryd.underlying93 rfl (by kernel_rfl)) rfl ?_
    exact ⟨rfl, (BB.out.setCell (p := ⟨gb, 0, none⟩) GE.out _).setCell (p := ⟨gb, 1, none⟩) GE.out _⟩
set_option maxHeartbeats 4000000 in
set_option maxRecDepth 100000 in
theorem cavilref13_number.trim_one (g c : Nat) (v : Int) (hv : v ≠ 0) (w : World) (hq : w.cell? ⟨g, 0, none⟩ = some (.int .i64 v)) (hc : 1 ≤ c) :
    Calls Tryd.prog 86 #[.bool false, .slice (some ⟨g, 0, none⟩) 1 c] w fun e w' => e = .returned (.agg #[.bool false, .slice (some ⟨g, 0, none⟩) 1 c]) ∧ Below w.heap.size w w' := by
  have hu := Tryd.underlying93
  have d0 : decide (v = 0) = false := decide_eq_false hv
  have e0 : (v == 0) = false := beq_eq_false_iff_ne.mpr hv
  have w0 : wrap64 ((1 : Int) - 1) = 0 := by unfold wrap64; omega
  have HQ := Aside0.mk hq
  have hlt := World.block_lt_of_cell? w _ hq
  have HL := Aside0.mk hlt
  have hci : (1 : Int) ≤ (c : Int) := by omega
  clear hq hlt hv
  go_enter Tryd.func86, Tryd.ntmps86
  go_wp2_with (first
    | ((with_reducible refine gate_dst (N := 4) rfl ?_); refine box_event ?hg (N := 4) ?hd (cs := #[.bool false, .slice none 0 0]) (t := 93) ?hr ?_; (case hd => rfl); (case hg => rfl); (case hr => first | (go_simp; done) | (go_simp; rfl)); intro gb egb w2 hxb hbb; have XB := Aside0.mk hxb; have BB := Aside0.mk hbb; have GE := Aside0.mk (Nat.le_of_eq egb.symm); have qb0 := blk_cell hxb 0; have qb1 := blk_cell hxb 1; have zb0 := blk_frozen hxb 0; have zb1 := blk_frozen hxb 1; simp only [List.getElem?_toArray, List.getElem?_cons_zero, List.getElem?_cons_succ] at qb0 qb1; clear hxb hbb egb))
  have q2 := (BB.out.cell HL.out).trans HQ.out
  go_loopg [5] 0 (fun kq v5 w' => v5 = .int .i64 1 ∧ w' = w2)
  case atStart => exact ⟨rfl, rfl⟩
  case round =>
    obtain ⟨rfl, rfl⟩ := hrel
    go_wp2
    refine bodyPost_ret (results_cell_row rfl _ _ gb 93 #[.bool false, .slice (some ⟨g, 0, none⟩) 1 c] (0, 0) _ rfl (blk_put (blk_put XB.out 0 (.bool false) rfl) 1 (.slice (some ⟨g, 0, none⟩) 1 c) rfl) Tryd.underlying93 rfl (by kernel_rfl)) rfl ?_
    exact ⟨rfl, (BB.out.setCell (p := ⟨gb, 0, none⟩) GE.out _).setCell (p := ⟨gb, 1, none⟩) GE.out _⟩
set_option maxHeartbeats 4000000 in
set_option maxRecDepth 100000 in
theorem cavilref13_number.trim_zero (g c : Nat) (w : World) (hq : w.cell? ⟨g, 0, none⟩ = some (.int .i64 0)) (hc : 1 ≤ c) :
    Calls Tryd.prog 86 #[.bool false, .slice (some ⟨g, 0, none⟩) 1 c] w fun e w' => e = .returned (.agg #[.bool false, .slice (some ⟨g, 0, none⟩) 0 c]) ∧ Below w.heap.size w w' := by
  have hu := Tryd.underlying93
  have w0 : wrap64 ((1 : Int) - 1) = 0 := by unfold wrap64; omega
  have HQ := Aside0.mk hq
  have hlt := World.block_lt_of_cell? w _ hq
  have HL := Aside0.mk hlt
  have hci : (0 : Int) ≤ (c : Int) := by omega
  clear hq hlt
  go_enter Tryd.func86, Tryd.ntmps86
  go_wp2_with (first
    | ((with_reducible refine gate_dst (N := 4) rfl ?_); refine box_event ?hg (N := 4) ?hd (cs := #[.bool false, .slice none 0 0]) (t := 93) ?hr ?_; (case hd => rfl); (case hg => rfl); (case hr => first | (go_simp; done) | (go_simp; rfl)); intro gb egb w2 hxb hbb; have XB := Aside0.mk hxb; have BB := Aside0.mk hbb; have GE := Aside0.mk (Nat.le_of_eq egb.symm); have qb0 := blk_cell hxb 0; have qb1 := blk_cell hxb 1; have zb0 := blk_frozen hxb 0; have zb1 := blk_frozen hxb 1; simp only [List.getElem?_toArray, List.getElem?_cons_zero, List.getElem?_cons_succ] at qb0 qb1; clear hxb hbb egb))
  have q2 := (BB.out.cell HL.out).trans HQ.out
  go_loopg [5] 1 (fun kq v5 w' => v5 = .int .i64 (kq : Int) ∧ Aside0 (kq ≤ 1) ∧ w' = w2)
  case atStart => exact ⟨rfl, ⟨Nat.le_refl _⟩, rfl⟩
  case round =>
    obtain ⟨rfl, HK, rfl⟩ := hrel
    rcases gk with _ | gk
    · go_wp2
      refine bodyPost_ret (results_cell_row rfl _ _ gb 93 #[.bool false, .slice (some ⟨g, 0, none⟩) 0 c] (0, 0) _ rfl (blk_put (blk_put XB.out 0 (.bool false) rfl) 1 (.slice (some ⟨g, 0, none⟩) 0 c) rfl) Tryd.underlying93 rfl (by kernel_rfl)) rfl ?_
      exact ⟨rfl, (BB.out.setCell (p := ⟨gb, 0, none⟩) GE.out _).setCell (p := ⟨gb, 1, none⟩) GE.out _⟩
    · obtain rfl : gk = 0 := by have := HK.out; omega
      go_wp2
      go_roundg 0
      case measure => omega
      case rel => exact ⟨rfl, ⟨by omega⟩, rfl⟩
set_option maxHeartbeats 4000000 in
set_option maxRecDepth 100000 in
theorem cavilref13_number.small (n : Int) (h1 : 1 ≤ n) (h2 : n ≤ 99) (w : World) :
    Calls Tryd.prog 56 #[.int .i64 n] w fun e w' => (∃ g c, e = .returned (.agg #[.bool false, .slice (some ⟨g, 0, none⟩) 1 c]) ∧ w'.cell? ⟨g, 0, none⟩ = some (.int .i64 n) ∧ 1 ≤ c) ∧ Below w.heap.size w w' := by
  have hu := Tryd.underlying93
  have d0 : decide (n < 0) = false := decide_eq_false (by omega)
  have d1 : decide (0 < n) = true := decide_eq_true (by omega)
  have H1 := Aside0.mk (show 1 ≤ n ∧ n ≤ 99 from ⟨h1, h2⟩)
  clear h1 h2
  go_enter Tryd.func56, Tryd.ntmps56
  go_wp2_with (first
    | ((with_reducible refine gate_dst (N := 2) rfl ?_); refine box_event ?hg (N := 2) ?hd (cs := #[.bool false, .slice none 0 0]) (t := 93) ?hr ?_; (case hd => rfl); (case hg => rfl); (case hr => first | (go_simp; done) | (go_simp; rfl)); intro gb egb w2 hxb hbb; have XB := Aside0.mk hxb; have BB := Aside0.mk hbb; have GE := Aside0.mk (Nat.le_of_eq egb.symm); have GN := Aside0.mk (blk_lt hxb); clear hxb hbb egb))
  go_loopg [3, 4] 1 (fun kq v3 v4 w' => (kq = 1 ∧ v3 = .slice none 0 0 ∧ v4 = .int .i64 n ∧ w' = w2) ∨ (kq = 0 ∧ ∃ g c, v3 = .slice (some ⟨g, 0, none⟩) 1 c ∧ v4 = .int .i64 0 ∧ Aside0 (w'.cell? ⟨g, 0, none⟩ = some (.int .i64 n)) ∧ Aside0 (1 ≤ c ∧ g ≠ gb) ∧ Aside0 (Below w.heap.size w w') ∧ Aside0 (w'.heap[gb]? = some (.cells #[.bool false, .slice none 0 0] 93 (0, 0)))))
  case atStart => exact .inl ⟨rfl, rfl, rfl, rfl⟩
  case round =>
    rcases hrel with ⟨rfl, rfl, rfl, rfl⟩ | ⟨rfl, g, c, rfl, rfl, HQ, HC, HB, HX⟩
    · have t1 : n.tmod 65536 = n := Int.tmod_eq_of_lt (by have := H1.out; omega) (by have := H1.out; omega)
      have t2 : wrap64 (n.tdiv 65536) = 0 := by
        rw [Int.tdiv_eq_zero_of_lt (by have := H1.out; omega) (by have := H1.out; omega)]
        unfold wrap64
        omega
      have BB2 := BB.out
      have XB2 := XB.out
      have ge := GE.out
      have gn := GN.out
      have T1 := Aside0.mk t1
      have T2 := Aside0.mk t2
      have GG := Aside0.mk (⟨BB2, XB2, ge, gn⟩ : Below w.heap.size w wr ∧ wr.heap[gb]? = some (.cells #[.bool false, .slice none 0 0] 93 (0, 0)) ∧ w.heap.size ≤ gb ∧ gb < wr.heap.size)
      clear t1 t2 BB2 XB2 ge gn
      go_wp2
      go_roundg 0
      case measure => omega
      case rel =>
        refine .inr ⟨rfl, _, _, rfl, by rw [T2.out], ⟨?_⟩, ⟨grownCap_ge wr 1 0 3, ?_⟩, ⟨?_⟩, ⟨?_⟩⟩
        · have hb := blk_new (wr.alloc (Obj.cells #[Value.int IntKind.i64 (n.tmod 65536)] 3)) (Obj.cells (#[Value.int IntKind.i64 (n.tmod 65536)] ++ Builtin.zeroCells #[Value.int IntKind.i64 0] ((Question.appendCap 1 0 3).cut (wr.tape wr.drawn (Question.appendCap 1 0 3)) - 1)) 3)
          have hs : (wr.alloc (Obj.cells #[Value.int IntKind.i64 (n.tmod 65536)] 3)).heap.size = wr.heap.size + 1 := by
            show (wr.heap.push _).size = _
            exact Array.size_push ..
          rw [hs] at hb
          have := blk_cell hb 0
          rw [T1.out] at this
          rw [T1.out]
          refine this.trans ?_
          rw [Array.getElem?_append_left (by simp)]
          rfl
        · have := GG.out.2.2.2
          omega
        · exact below_drew (below_alloc (below_alloc GG.out.1 _) _)
        · exact blk_drew (blk_alloc (blk_alloc GG.out.2.1 _) _)
    · have qb0 := blk_cell HX.out 0
      have qb1 := blk_cell HX.out 1
      have zb0 := blk_frozen HX.out 0
      have zb1 := blk_frozen HX.out 1
      simp only [List.getElem?_toArray, List.getElem?_cons_zero, List.getElem?_cons_succ] at qb0 qb1
      go_wp2_with (first | (go_at_call 86; (refine (cavilref13_number.trim_one g c n (by have := H1.out; omega) _ HQ.out HC.out.1).mono ?_); rintro e w3 ⟨rfl, hb3⟩; have B3 := Aside0.mk hb3; have hx3 := blk_below HX.out hb3; have X3 := Aside0.mk hx3; have rb0 := blk_cell hx3 0; have rb1 := blk_cell hx3 1; have yb0 := blk_frozen hx3 0; have yb1 := blk_frozen hx3 1; simp only [List.getElem?_toArray, List.getElem?_cons_zero, List.getElem?_cons_succ] at rb0 rb1; clear hb3 hx3))
      refine bodyPost_ret (results_cell_row rfl _ _ gb 93 #[.bool false, .slice (some ⟨g, 0, none⟩) 1 c] (0, 0) _ rfl (blk_put (blk_put X3.out 0 (.bool false) rfl) 1 (.slice (some ⟨g, 0, none⟩) 1 c) rfl) Tryd.underlying93 rfl (by kernel_rfl)) rfl ?_
      have hq3 := (B3.out.cell (World.block_lt_of_cell? _ _ HQ.out)).trans HQ.out
      refine ⟨⟨g, c, rfl, ?_, HC.out.1⟩, ((HB.out.trans (B3.out.mono HB.out.size)).setCell (p := ⟨gb, 0, none⟩) GE.out _).setCell (p := ⟨gb, 1, none⟩) GE.out _⟩
      exact (cell_far (p := ⟨gb, 1, none⟩) HC.out.2 _).trans ((cell_far (p := ⟨gb, 0, none⟩) HC.out.2 _).trans hq3)
set_option maxHeartbeats 4000000 in
set_option maxRecDepth 100000 in
theorem cavilref13_number.small0 (w : World) :
    Calls Tryd.prog 56 #[.int .i64 0] w fun e w' => e = .returned (.agg #[.bool false, .slice none 0 0]) ∧ Below w.heap.size w w' := by
  have hu := Tryd.underlying93
  go_enter Tryd.func56, Tryd.ntmps56
  go_wp2_with (first
    | ((with_reducible refine gate_dst (N := 2) rfl ?_); refine box_event ?hg (N := 2) ?hd (cs := #[.bool false, .slice none 0 0]) (t := 93) ?hr ?_; (case hd => rfl); (case hg => rfl); (case hr => first | (go_simp; done) | (go_simp; rfl)); intro gb egb w2 hxb hbb; have XB := Aside0.mk hxb; have BB := Aside0.mk hbb; have GE := Aside0.mk (Nat.le_of_eq egb.symm); have GN := Aside0.mk (blk_lt hxb); have qb0 := blk_cell hxb 0; have qb1 := blk_cell hxb 1; have zb0 := blk_frozen hxb 0; have zb1 := blk_frozen hxb 1; simp only [List.getElem?_toArray, List.getElem?_cons_zero, List.getElem?_cons_succ] at qb0 qb1; clear hxb hbb egb))
  go_loopg [3, 4] 0 (fun kq v3 v4 w' => v3 = .slice none 0 0 ∧ v4 = .int .i64 0 ∧ w' = w2)
  case atStart => exact ⟨rfl, rfl, rfl⟩
  case round =>
    obtain ⟨rfl, rfl, rfl⟩ := hrel
    go_wp2_with (first | (go_at_call 86; (refine (cavilref13_number.trim_nil _).mono ?_); rintro e w3 ⟨rfl, hb3⟩; have B3 := Aside0.mk hb3; have hx3 := blk_below XB.out hb3; have X3 := Aside0.mk hx3; have rb0 := blk_cell hx3 0; have rb1 := blk_cell hx3 1; have yb0 := blk_frozen hx3 0; have yb1 := blk_frozen hx3 1; simp only [List.getElem?_toArray, List.getElem?_cons_zero, List.getElem?_cons_succ] at rb0 rb1; clear hb3 hx3))
    refine bodyPost_ret (results_cell_row rfl _ _ gb 93 #[.bool false, .slice none 0 0] (0, 0) _ rfl (blk_put (blk_put X3.out 0 (.bool false) rfl) 1 (.slice none 0 0) rfl) Tryd.underlying93 rfl (by kernel_rfl)) rfl ?_
    exact ⟨rfl, ((BB.out.trans (B3.out.mono BB.out.size)).setCell (p := ⟨gb, 0, none⟩) GE.out _).setCell (p := ⟨gb, 1, none⟩) GE.out _⟩
theorem cavilref13_number.one {w : World} {g : Nat} {n : Int} (h : w.cell? ⟨g, 0, none⟩ = some (.int .i64 n)) : (Kd.int .i64).C w (some ⟨g, 0, none⟩) 1 [n] :=
  Kd.C_of_reads (enc := Value.int .i64) (d := (0 : Int)) ⟨rfl, by omega, fun _ => ⟨_, rfl, fun j hj => by
    obtain rfl : j = 0 := by omega
    exact h⟩⟩
theorem cavilref13_number.field1 (x y : Value) (w : World) : Sem.run Tryd.prog (Instr.field 93 (.agg #[x, y]) 1) w = .ok y w := by kernel_rfl
def cavilref13_number.dg (r : Int) : ByteArray := (⟨#[48, 49, 50, 51, 52, 53, 54, 55, 56, 57]⟩ : ByteArray).extract r.toNat (r + 1).toNat
def cavilref13_number.out (s : ByteArray) (v : Int) : ByteArray := if v < 10 then cavilref13_number.dg v ++ s else cavilref13_number.dg (v / 10) ++ (cavilref13_number.dg (v % 10) ++ s)
set_option maxHeartbeats 4000000 in
set_option maxRecDepth 100000 in
theorem cavilref13_number.text0 (w : World) :
    Calls Tryd.prog 57 #[.agg #[.bool false, .slice none 0 0]] w fun e w' => e = .returned (.string ⟨#[48]⟩) ∧ Below w.heap.size w w' := by
  have hu := Tryd.underlying93
  go_enter Tryd.func57, Tryd.ntmps57
  go_wp2_with (first
    | ((with_reducible refine gate_dst (N := 1) rfl ?_); refine box_event ?hg (N := 1) ?hd (cs := #[.bool false, .slice none 0 0]) (t := 93) ?hr ?_; (case hd => rfl); (case hg => rfl); (case hr => first | (go_simp; done) | (go_simp; rfl)); intro gb egb w2 hxb hbb; have XB := Aside0.mk hxb; have BB := Aside0.mk hbb; have GE := Aside0.mk (Nat.le_of_eq egb.symm); have GN := Aside0.mk (blk_lt hxb); have qb0 := blk_cell hxb 0; have qb1 := blk_cell hxb 1; have zb0 := blk_frozen hxb 0; have zb1 := blk_frozen hxb 1; simp only [List.getElem?_toArray, List.getElem?_cons_zero, List.getElem?_cons_succ] at qb0 qb1; clear hxb hbb egb))
  go_ret
  exact ⟨rfl, BB.out⟩
set_option maxHeartbeats 4000000 in
set_option maxRecDepth 100000 in
theorem cavilref13_number.text1 (n : Int) (h1 : 1 ≤ n) (h2 : n ≤ 99) (g c : Nat) (hc : 1 ≤ c) (w : World) (hq : w.cell? ⟨g, 0, none⟩ = some (.int .i64 n)) :
    Calls Tryd.prog 57 #[.agg #[.bool false, .slice (some ⟨g, 0, none⟩) 1 c]] w fun e w' => e = .returned (.string (cavilref13_number.out ⟨#[]⟩ n)) ∧ Below w.heap.size w w' := by
  have hu := Tryd.underlying93
  have H1 := Aside0.mk (show 1 ≤ n ∧ n ≤ 99 from ⟨h1, h2⟩)
  have HL := Aside0.mk (World.block_lt_of_cell? w _ hq)
  have HQ := Aside0.mk hq
  clear h1 h2 hq
  go_enter Tryd.func57, Tryd.ntmps57
  go_wp2_with (first
    | ((with_reducible refine gate_dst (N := 1) rfl ?_); refine box_event ?hg (N := 1) ?hd (cs := #[.bool false, .slice (some ⟨g, 0, none⟩) 1 c]) (t := 93) ?hr ?_; (case hd => rfl); (case hg => rfl); (case hr => first | (go_simp; done) | (go_simp; rfl)); intro gb egb w2 hxb hbb; have XB := Aside0.mk hxb; have BB := Aside0.mk hbb; have GE := Aside0.mk (Nat.le_of_eq egb.symm); have GN := Aside0.mk (blk_lt hxb); have qb0 := blk_cell hxb 0; have qb1 := blk_cell hxb 1; have zb0 := blk_frozen hxb 0; have zb1 := blk_frozen hxb 1; simp only [List.getElem?_toArray, List.getElem?_cons_zero, List.getElem?_cons_succ] at qb0 qb1; clear hxb hbb egb)
    | ((with_reducible refine gate_dst (N := 13) rfl ?_); refine Kd.R_lit (Kd.int .i64) (w0 := w) w.heap.size 3 ?hg (N := 13) ?hd (xs := ([] : List Int)) (inner := []) (ok := fun k => k ≠ gb) (okp := fun k => k ≠ gb) ?hr ?hp (fun _ hk => hk) ?hf BB.out BB.out.size (by simp) ?_; (case hd => rfl); (case hg => rfl); (case hr => first | (go_simp; done) | (go_simp; rfl)); (case hp => exact (Reps.none _ _)); (case hf => have := GN.out; omega); intro v3 w3 ho3 hb3 hg3 hn3; have hx3 := (hg3.block gb GN.out (by simp)).trans XB.out; have X3 := Aside0.mk hx3; have B3 := Aside0.mk hb3; have O3 := Aside0.mk ho3; have rb0 := blk_cell hx3 0; have rb1 := blk_cell hx3 1; have yb0 := blk_frozen hx3 0; have yb1 := blk_frozen hx3 1; simp only [List.getElem?_toArray, List.getElem?_cons_zero, List.getElem?_cons_succ] at rb0 rb1; clear hb3 hx3 ho3 hg3 hn3)
    | ((with_reducible refine gate_builtin (b := .append) (xs := #[.tmp 13, .tmp 15]) rfl ?_); at_builtin; refine Kd.R_append_row (Value.int .i64) (0 : Int) (w0 := w) w.heap.size rfl (.tmp 13) (.tmp 15) 28 3 (.int .i64 0) 8 rfl Tryd.underlying28 info3 rfl (by decide) v3 [] [n] _ _ _ (fun k => k ≠ gb) rfl rfl ?aF O3.out ?aR B3.out B3.out.size (by simp) ?_; (case aF => intro k hk; have := blk_lt X3.out; omega); (case aR => exact Kd.C_below (cavilref13_number.one HQ.out) B3.out); intro v4 w4 ho4 hb4 hg4 hat4; have hx4 := (hg4.block gb (blk_lt X3.out) (fun e => (O3.out).1 gb e.symm rfl)).trans X3.out; have X4 := Aside0.mk hx4; have B4 := Aside0.mk hb4; have O4 := Aside0.mk ho4; clear hx4 hb4 ho4 hg4 hat4))
  obtain ⟨h, cp, rfl, hbase, _, _⟩ := Kd.R_form O4.out (by simp)
  have HX := Aside0.mk (⟨hbase, fun e => (O4.out).1 h rfl e⟩ : w.heap.size ≤ h ∧ h ≠ gb)
  clear hbase
  go_loopg [4, 5] (if n < 10 then 1 else 2) (fun kq v4 v5 w' => (∃ (v : Int) (sx : ByteArray), Aside0 (kq = (if v < 10 then 1 else 2)) ∧ v4 = .string sx ∧ v5 = .slice (some ⟨h, 0, none⟩) 1 cp ∧ Aside0 (1 ≤ v ∧ v ≤ 99) ∧ Aside0 (sx.size ≤ 1 ∧ (10 ≤ v → sx.size = 0)) ∧ Aside0 (cavilref13_number.out sx v = cavilref13_number.out ⟨#[]⟩ n) ∧ Aside0 ((Kd.int .i64).R 3 w' w.heap.size (fun k => k ≠ gb) (.slice (some ⟨h, 0, none⟩) 1 cp) [v]) ∧ Aside0 (Below w.heap.size w w') ∧ Aside0 (w'.heap[gb]? = some (.cells #[.bool false, .slice (some ⟨g, 0, none⟩) 1 c] 93 (0, 0)))) ∨ (kq = 0 ∧ v4 = .string (cavilref13_number.out ⟨#[]⟩ n) ∧ v5 = .slice (some ⟨h, 0, none⟩) 0 cp ∧ Aside0 (Below w.heap.size w w') ∧ Aside0 (w'.heap[gb]? = some (.cells #[.bool false, .slice (some ⟨g, 0, none⟩) 1 c] 93 (0, 0)))))
  case atStart => exact .inl ⟨n, ⟨#[]⟩, ⟨rfl⟩, rfl, rfl, H1, ⟨by decide, fun _ => rfl⟩, ⟨rfl⟩, O4, B4, X4⟩
  case round =>
    clear O4 B4 X4 O3 B3 X3 XB BB GE GN qb0 qb1 zb0 zb1 rb0 rb1 yb0 yb1
    rcases hrel with ⟨v, sx, HK, rfl, rfl, HV, HS, HO, HR, HB, HG⟩ | ⟨rfl, rfl, rfl, HB, HG⟩
    · have w0 : wrap64 ((1 : Int) - 1) = 0 := by unfold wrap64; omega
      go_wp2
      obtain ⟨W0, rfl⟩ : ∃ W0, W0 = wr := ⟨wr, rfl⟩
      obtain ⟨r, hr⟩ : ∃ r, r = v % 10 := ⟨_, rfl⟩
      obtain ⟨u, hu'⟩ : ∃ u, u = v / 10 := ⟨_, rfl⟩
      have ER := Aside0.mk (⟨hr, hu'⟩ : r = v % 10 ∧ u = v / 10)
      clear hr hu'
      go_loopg [6, 7] 1 (fun kq v6 v7 w' => (kq = 1 ∧ v6 = .int .i64 0 ∧ v7 = .int .i64 0 ∧ w' = W0) ∨ (kq = 0 ∧ v6 = .int .i64 r ∧ v7 = .int .i64 (-1) ∧ w' = W0.setCell ⟨h, 0, none⟩ (.int .i64 u)))
      case atStart => exact .inl ⟨rfl, rfl, rfl, rfl⟩
      case round =>
        rcases hrel with ⟨rfl, rfl, rfl, rfl⟩ | ⟨rfl, rfl, rfl, rfl⟩
        · have hc0 := Kd.R_celln (0 : Int) HR.out 0 (by omega) (by omega)
          have q0 : wr.cell? ⟨h, 0, none⟩ = some (.int .i64 v) := hc0.1
          have z0 : wr.frozen? ⟨h, 0, none⟩ = false := hc0.2
          clear hc0
          go_wp2
          have hv := HV.out
          have er := ER.out
          have t0 : wrap64 v = v := by unfold wrap64; omega
          have t1 : (wrap64 v).tdiv 10 = u := by rw [t0, er.2]; exact Int.tdiv_eq_ediv_of_nonneg (by omega)
          have t2 : (wrap64 v).tmod 10 = r := by rw [t0, er.1]; exact Int.tmod_eq_emod_of_nonneg (by omega)
          have t3 : wrap64 u = u := by have := er.2; unfold wrap64; omega
          go_roundg 0
          case measure => omega
          case rel => exact .inr ⟨rfl, by rw [t2], rfl, by rw [t1, t3]⟩
        · have hv := HV.out
          have er := ER.out
          have hs := HS.out
          have r0 : 0 ≤ r := by omega
          have r9 : r ≤ 9 := by omega
          have b0 : (0 ≤ r) = True := eq_true r0
          have b1 : (r ≤ r + 1) = True := eq_true (by omega)
          have b2 : (r + 1 ≤ 10) = True := eq_true (by omega)
          have b3 : (0 ≤ r + 1) = True := eq_true (by omega)
          have d0 : decide (0 ≤ r) = true := decide_eq_true r0
          have d2 : decide (r + 1 ≤ 10) = true := decide_eq_true (by omega)
          have w1 : wrap64 (r + 1) = r + 1 := by unfold wrap64; omega
          have sz : ((⟨#[48, 49, 50, 51, 52, 53, 54, 55, 56, 57]⟩ : ByteArray).extract r.toNat (r + 1).toNat).size ≤ 1 := by
            rw [ByteArray.size_extract]
            omega
          have hcat : (9223372036854775807 < (r + 1).toNat - r.toNat + sx.size) = False := eq_false (by omega)
          have SZ := Aside0.mk sz
          have R9 := Aside0.mk r9
          clear hv er hs r0 r9 sz
          go_wp2_with (first | (go_at_call 86; refine Hid.out ?_))
          refine Lib.hid ?_
          have hr := HR.out
          have hcp : 1 ≤ cp := (Kd.R_reads' hr).2.1
          have hp := Kd.R_putn hr (0 : Int) u
          have hpc := (Kd.R_celln (0 : Int) hp 0 (by omega) (by omega)).1
          have hb1 := HB.out.setCell (p := ⟨h, 0, none⟩) HX.out.1 (.int .i64 u)
          have hg1 := blk_far HG.out (p := ⟨h, 0, none⟩) (fun e => HX.out.2 e.symm) (.int .i64 u)
          have hv := HV.out
          have er := ER.out
          have hs := HS.out
          have ho := HO.out
          by_cases c10 : v < 10
          · obtain rfl := HK.out.trans (if_pos c10)
            have u0 : u = 0 := by omega
            have rv : r = v := by omega
            refine (cavilref13_number.trim_zero h cp _ (by rw [← u0]; exact hpc) hcp).mono ?_
            rintro e w3 ⟨rfl, hb3⟩
            have B3 := Aside0.mk hb3
            have B1 := Aside0.mk hb1
            have G1 := Aside0.mk hg1
            have C10 := Aside0.mk c10
            have RV := Aside0.mk rv
            have OO := Aside0.mk ho
            clear hr hcp hp hpc hb1 hg1 hv er hs ho hb3 u0 rv c10
            have hf := cavilref13_number.field1 (.bool false) (.slice (some ⟨h, 0, none⟩) 0 cp) w3
            go_wp2
            go_roundg 0
            case measure => first | omega | (split <;> omega)
            case rel =>
              refine .inr ⟨rfl, ?_, rfl, ⟨B1.out.trans (B3.out.mono B1.out.size)⟩, ⟨blk_below G1.out B3.out⟩⟩
              rw [← OO.out, RV.out]
              unfold cavilref13_number.out
              rw [if_pos C10.out]
              rfl
          · obtain rfl := HK.out.trans (if_neg c10)
            have u1 : 1 ≤ u ∧ u ≤ 9 := by omega
            refine (cavilref13_number.trim_one h cp u (by omega) _ hpc hcp).mono ?_
            rintro e w3 ⟨rfl, hb3⟩
            have B3 := Aside0.mk hb3
            have B1 := Aside0.mk hb1
            have G1 := Aside0.mk hg1
            have C10 := Aside0.mk c10
            have U1 := Aside0.mk u1
            have OO := Aside0.mk ho
            have RP := Aside0.mk hp
            have SS := Aside0.mk hs
            clear hr hcp hp hpc hb1 hg1 hv er hs ho hb3 u1 c10
            have hf := cavilref13_number.field1 (.bool false) (.slice (some ⟨h, 0, none⟩) 1 cp) w3
            go_wp2
            go_roundg 1
            case measure => first | omega | (rw [if_neg (show ¬ v < 10 by have := C10.out; omega)]; omega)
            case rel =>
              refine .inl ⟨u, cavilref13_number.dg r ++ sx, ⟨by rw [if_pos (by have := U1.out; omega)]⟩, rfl, rfl, ⟨by have := U1.out; omega⟩, ⟨?_, fun h => by have := U1.out; omega⟩, ⟨?_⟩, ⟨Kd.R_below RP.out B3.out⟩, ⟨B1.out.trans (B3.out.mono B1.out.size)⟩, ⟨blk_below G1.out B3.out⟩⟩
              · have := SS.out.2 (by have := C10.out; omega)
                rw [ByteArray.size_append, this]
                exact SZ.out
              · rw [← OO.out]
                unfold cavilref13_number.out
                rw [if_pos (by have := U1.out; omega), if_neg (show ¬ v < 10 by have := C10.out; omega), ER.out.1, ER.out.2]
    · have qb0 := blk_cell HG.out 0
      simp only [List.getElem?_toArray, List.getElem?_cons_zero, List.getElem?_cons_succ] at qb0
      go_wp2
      go_ret
      exact ⟨rfl, HB.out⟩
def cavilref13_number.f (a0 : Int) : Option (ByteArray) := if 0 ≤ a0 ∧ a0 ≤ 99 then some (if a0 < 1 then ⟨#[48]⟩ else cavilref13_number.out ⟨#[]⟩ a0) else none
set_option maxHeartbeats 4000000 in
set_option maxRecDepth 100000 in
theorem cavilref13_number.calls (a0 : Int) (r : ByteArray) (w : World) (h : cavilref13_number.f a0 = some r) :
    Calls Tryd.prog 68 #[.int .i64 a0] w fun e w' => e = .returned (.string r) ∧ Below w.heap.size w w' := by
  unfold cavilref13_number.f at h
  split at h
  case isFalse => cases h
  rename_i ha
  cases h
  by_cases c : a0 < 1
  · rw [if_pos c]
    obtain rfl : a0 = 0 := by omega
    clear c ha
    go_enter Tryd.func68, Tryd.ntmps68
    go_wp2_with (first
      | (go_at_call 56; (refine (cavilref13_number.small0 _).mono ?_); rintro e w2 ⟨rfl, hb2⟩; have B2 := Aside0.mk hb2; clear hb2)
      | (go_at_call 57; (refine (cavilref13_number.text0 _).mono ?_); rintro e w3 ⟨rfl, hb3⟩; have B3 := Aside0.mk hb3; clear hb3))
    go_ret
    exact ⟨rfl, B2.out.trans (B3.out.mono B2.out.size)⟩
  · rw [if_neg c]
    have HA := Aside0.mk (⟨by omega, ha.2⟩ : 1 ≤ a0 ∧ a0 ≤ 99)
    clear c ha
    go_enter Tryd.func68, Tryd.ntmps68
    go_wp2_with (first
      | (go_at_call 56; (refine (cavilref13_number.small a0 HA.out.1 HA.out.2 _).mono ?_); rintro e w2 ⟨⟨g, c, rfl, hq, hc⟩, hb2⟩; have B2 := Aside0.mk hb2; have HQ := Aside0.mk hq; have HC := Aside0.mk hc; clear hb2 hq hc)
      | (go_at_call 57; (refine (cavilref13_number.text1 a0 HA.out.1 HA.out.2 g c HC.out _ HQ.out).mono ?_); rintro e w3 ⟨rfl, hb3⟩; have B3 := Aside0.mk hb3; clear hb3))
    go_ret
    exact ⟨rfl, B2.out.trans (B3.out.mono B2.out.size)⟩

end Go.Proofs.YtnpgadfoohjlnabDoor.QX
