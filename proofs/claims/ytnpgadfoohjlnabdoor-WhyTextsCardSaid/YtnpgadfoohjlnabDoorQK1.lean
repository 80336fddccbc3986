/- Where a Lean function of this text answers, the Go function of its name comes to that answer: no other condition. Written by a program of this session out of the translation; Lean checks it. -/
import Derived.Test.YtnpgadfoohjlnabDoorQK0
namespace Go.Proofs.YtnpgadfoohjlnabDoor.QK
open Go.RowKit Go.Proofs.YtnpgadfoohjlnabDoorW.PrintWords Go.Proofs.YtnpgadfoohjlnabDoorW.PrintLast Go.Proofs.YtnpgadfoohjlnabDoorW.PrintMore Go.Proofs.YtnpgadfoohjlnabDoorW.PrintX
attribute [local go_sem] max2_int min2_int max_two min_two max_three min_three max_four min_four   -- for this text's walks alone
set_option linter.unusedVariables false
set_option linter.unusedSimpArgs false

/-! ### cavillaw33_few: function 24 -/
def cavillaw33_few.f (a0_0 : ByteArray) (a0_1 : ByteArray) (a0_2 : Int) (a0_3 : Int) (a0_4 : Int) (a0_5 : ByteArray) (l0_6 : List Int) (a0_7 : Int) : Option (ByteArray × ByteArray × Int × Int × Int × ByteArray × List Int × Int) := if 0 ≤ (mn (a0_5.size : Int) 30) then (if (mn (a0_5.size : Int) 30) ≤ (a0_5.size : Int) then (if 0 ≤ (mn (l0_6.length : Int) 10) then (if (mn (l0_6.length : Int) 10) ≤ (l0_6.length : Int) then (some (a0_0, a0_1, a0_2, a0_3, a0_4, a0_5.extract 0 ((mn (a0_5.size : Int) 30) : Int).toNat, (l0_6.take ((mn (l0_6.length : Int) 10) : Int).toNat), a0_7)) else (none)) else (none)) else (none)) else (none)
set_option maxHeartbeats 8000000 in
set_option maxRecDepth 100000 in
theorem cavillaw33_few.calls (a0_0 : ByteArray) (a0_1 : ByteArray) (a0_2 : Int) (a0_3 : Int) (a0_4 : Int) (a0_5 : ByteArray) (P0_6_ : Nat → Prop) (A0_6 : Option Addr) (c0_6 : Nat) (l0_6 : List Int) (a0_7 : Int) (r1 : ByteArray) (r2 : ByteArray) (r3 : Int) (r4 : Int) (r5 : Int) (r6 : ByteArray) (r7 : List Int) (r8 : Int) (w : World) (hs0_6 : Kd.V (Kd.int .i64) 3 w w.heap.size (fun k_ => P0_6_ k_) (.slice A0_6 l0_6.length c0_6) l0_6) (h : cavillaw33_few.f a0_0 a0_1 a0_2 a0_3 a0_4 a0_5 l0_6 a0_7 = some (r1, r2, r3, r4, r5, r6, r7, r8)) :
    Calls Tryd.prog 24 #[.agg #[.string a0_0, .string a0_1, .int .i64 a0_2, .int .i64 a0_3, .int .i64 a0_4, .string a0_5, .slice A0_6 l0_6.length c0_6, .int .i64 a0_7]] w fun e w' => ∃ v6_ : Value, e = .returned (.agg #[.string r1, .string r2, .int .i64 r3, .int .i64 r4, .int .i64 r5, .string r6, v6_, .int .i64 r8]) ∧ Kd.V (Kd.int .i64) 3 w' w.heap.size (fun k_ => (P0_6_ k_ ∨ w.heap.size ≤ k_)) v6_ r7 ∧ Below w.heap.size w w' := by
  have hu52 := Tryd.underlying52
  have HO0_6 := Aside0.mk (show Kd.V (Kd.int .i64) 3 w w.heap.size (fun k_ => (P0_6_ k_ ∨ w.heap.size ≤ k_)) (.slice A0_6 l0_6.length c0_6) l0_6 from Kd.V_mono hs0_6 (fun k_ hk => .inl hk))
  have HB := Aside0.mk (Below.refl w.heap.size w)
  have H : (if 0 ≤ (mn (a0_5.size : Int) 30) then (if (mn (a0_5.size : Int) 30) ≤ (a0_5.size : Int) then (if 0 ≤ (mn (l0_6.length : Int) 10) then (if (mn (l0_6.length : Int) 10) ≤ (l0_6.length : Int) then (some (a0_0, a0_1, a0_2, a0_3, a0_4, a0_5.extract 0 ((mn (a0_5.size : Int) 30) : Int).toNat, (l0_6.take ((mn (l0_6.length : Int) 10) : Int).toNat), a0_7)) else (none)) else (none)) else (none)) else (none)) = some (r1, r2, r3, r4, r5, r6, r7, r8) := h
  clear h
  obtain ⟨ji2, hji2⟩ : ∃ j_ : Int, (mn (a0_5.size : Int) 30) = j_ := ⟨_, rfl⟩
  replace H : (if 0 ≤ (ji2) then (if (ji2) ≤ (a0_5.size : Int) then (if 0 ≤ (mn (l0_6.length : Int) 10) then (if (mn (l0_6.length : Int) 10) ≤ (l0_6.length : Int) then (some (a0_0, a0_1, a0_2, a0_3, a0_4, a0_5.extract 0 ((ji2) : Int).toNat, (l0_6.take ((mn (l0_6.length : Int) 10) : Int).toNat), a0_7)) else (none)) else (none)) else (none)) else (none)) = some (r1, r2, r3, r4, r5, r6, r7, r8) := by first | (rw [hji2] at H; exact H) | (simp only [hji2] at H ⊢; exact H)
  (try (have hji2h : ji2 ≤ 30 := by (rw [← hji2]; unfold mn; (repeat' split) <;> omega)))
  (try (have hji2g : ji2 ≤ 64 := by omega))
  (try (have hji2l : 0 ≤ ji2 := by (rw [← hji2]; unfold mn; (repeat' split) <;> omega)))
  (try (have hji2m : 0 ≤ ji2 := by omega))
  have hji2_ : (if 30 < (a0_5.size : Int) then 30 else (a0_5.size : Int)) = ji2 := hji2
  by_cases c3 : 0 ≤ (ji2)
  · rw [if_pos c3] at H
    have c3b0 := eq_true c3
    have c3b1 : decide (0 ≤ (ji2)) = true := decide_eq_true c3
    clear c3
    by_cases c4 : (ji2) ≤ (a0_5.size : Int)
    · rw [if_pos c4] at H
      have c4b0 := eq_true c4
      have c4b1 : decide ((ji2) ≤ (a0_5.size : Int)) = true := decide_eq_true c4
      clear c4
      obtain ⟨ji5, hji5⟩ : ∃ j_ : Int, (mn (l0_6.length : Int) 10) = j_ := ⟨_, rfl⟩
      replace H : (if 0 ≤ (ji5) then (if (ji5) ≤ (l0_6.length : Int) then (some (a0_0, a0_1, a0_2, a0_3, a0_4, a0_5.extract 0 ((ji2) : Int).toNat, (l0_6.take ((ji5) : Int).toNat), a0_7)) else (none)) else (none)) = some (r1, r2, r3, r4, r5, r6, r7, r8) := by first | (rw [hji5] at H; exact H) | (simp only [hji5] at H ⊢; exact H)
      (try (have hji5h : ji5 ≤ 10 := by (rw [← hji5]; unfold mn; (repeat' split) <;> omega)))
      (try (have hji5g : ji5 ≤ 64 := by omega))
      (try (have hji5l : 0 ≤ ji5 := by (rw [← hji5]; unfold mn; (repeat' split) <;> omega)))
      (try (have hji5m : 0 ≤ ji5 := by omega))
      have hji5_ : (if 10 < (l0_6.length : Int) then 10 else (l0_6.length : Int)) = ji5 := hji5
      by_cases c6 : 0 ≤ (ji5)
      · rw [if_pos c6] at H
        have c6b0 := eq_true c6
        have c6b1 : decide (0 ≤ (ji5)) = true := decide_eq_true c6
        clear c6
        by_cases c7 : (ji5) ≤ (l0_6.length : Int)
        · rw [if_pos c7] at H
          have c7b0 := eq_true c7
          have c7b1 : decide ((ji5) ≤ (l0_6.length : Int)) = true := decide_eq_true c7
          clear c7
          obtain ⟨y103, hy103⟩ : ∃ y_ : List Int, y_ = (l0_6.take ((ji5) : Int).toNat) := ⟨_, rfl⟩
          replace H : (some (a0_0, a0_1, a0_2, a0_3, a0_4, a0_5.extract 0 ((ji2) : Int).toNat, y103, a0_7)) = some (r1, r2, r3, r4, r5, r6, r7, r8) := by first | (rw [hy103]; with_reducible exact H) | (have H2_ := (Option.bind_some _ _).symm.trans H; rw [hy103]; with_reducible exact H2_) | (have H2_ := (Option.bind_some _ _).symm.trans H; with_reducible exact H2_) | with_reducible exact H | (rw [hy103]; exact H) | exact H
          have Ny103 := Aside0.mk hy103
          clear hy103
          simp only [Option.some.injEq, Prod.mk.injEq] at H
          obtain ⟨rfl, rfl, rfl, rfl, rfl, rfl, rfl, rfl⟩ := H
          go_enter Tryd.func24, Tryd.ntmps24
          go_wp2_with (first | ((with_reducible refine gate_dst (N := 1) rfl ?_); refine box_event ?hg (N := 1) ?hd (cs := #[.string a0_0, .string a0_1, .int .i64 a0_2, .int .i64 a0_3, .int .i64 a0_4, .string a0_5, .slice A0_6 l0_6.length c0_6, .int .i64 a0_7]) (t := 52) ?hr ?_; (case hd => rfl); (case hg => rfl); (case hr => first | (go_simp; done) | (go_simp; rfl)); intro gb101 hg w8 hbox hb; have n0_ := Aside0.mk (Kd.V_below (Kd.V_elderB (by (with_reducible repeat (first | apply Kd.V_alloc | apply Kd.V_drewN | apply Kd.V_drew)); exact HO0_6.out) gb101 (Nat.le_of_eq hg.symm)) hb); have n1_ := Aside0.mk (below_step (by repeat (first | (with_reducible first | exact HB.out | apply below_alloc | apply pw_below_drewN | apply below_drew1) | exact HB.out)) hb); have n2_ := Aside0.mk (hbox); have n3_ := Aside0.mk ((by rw [hg]; exact (below_size (by repeat (first | (with_reducible first | exact HB.out | apply below_alloc | apply pw_below_drewN | apply below_drew1) | exact HB.out))) : w.heap.size ≤ gb101)); have n4_ := Aside0.mk ((by rw [hg]; exact (below_size (by repeat (first | (with_reducible first | exact HB.out | apply below_alloc | apply pw_below_drewN | apply below_drew1) | exact HB.out))) : w.heap.size ≤ gb101)); clear HO0_6; clear HB; have HO0_6 := n0_; have HB := n1_; have BK101 := n2_; have GW101 := n3_; have GE101 := n4_; clear n0_ n1_ n2_ n3_ n4_; clear hb hbox hg) | ((with_reducible refine gate_dst (N := 2) rfl ?_); refine box_event ?hg (N := 2) ?hd (cs := #[.string (⟨#[]⟩ : ByteArray), .string (⟨#[]⟩ : ByteArray), .int .i64 0, .int .i64 0, .int .i64 0, .string (⟨#[]⟩ : ByteArray), .slice none 0 0, .int .i64 0]) (t := 52) ?hr ?_; (case hd => rfl); (case hg => rfl); (case hr => first | (go_simp; done) | (go_simp; rfl)); intro gb102 hg w9 hbox hb; have n0_ := Aside0.mk (Kd.V_below (Kd.V_elderB (by (with_reducible repeat (first | apply Kd.V_alloc | apply Kd.V_drewN | apply Kd.V_drew)); exact HO0_6.out) gb102 (Nat.le_of_eq hg.symm)) hb); have n1_ := Aside0.mk (blk_below (g := gb101) (o := .cells #[.string a0_0, .string a0_1, .int .i64 a0_2, .int .i64 a0_3, .int .i64 a0_4, .string a0_5, .slice A0_6 l0_6.length c0_6, .int .i64 a0_7] 52 (0, 0)) (by (with_reducible repeat (first | refine blk_drewN ?_ _ | refine blk_drew ?_ | refine blk_alloc ?_ _)); exact BK101.out) hb); have n2_ := Aside0.mk (below_step (by repeat (first | (with_reducible first | exact HB.out | apply below_alloc | apply pw_below_drewN | apply below_drew1 | refine below_set ?_ GE101.out) | exact HB.out)) hb); have n3_ := Aside0.mk (hbox); have n4_ := Aside0.mk ((by rw [hg]; exact (below_size (by repeat (first | (with_reducible first | exact HB.out | apply below_alloc | apply pw_below_drewN | apply below_drew1 | refine below_set ?_ GE101.out) | exact HB.out))) : w.heap.size ≤ gb102)); have n5_ := Aside0.mk ((by rw [hg]; exact (below_size (by repeat (first | (with_reducible first | exact HB.out | apply below_alloc | apply pw_below_drewN | apply below_drew1 | refine below_set ?_ GE101.out) | exact HB.out))) : w.heap.size ≤ gb102)); have n6_ := Aside0.mk ((by rw [hg]; exact Nat.ne_of_lt (blk_lt (g := gb101) (o := .cells #[.string a0_0, .string a0_1, .int .i64 a0_2, .int .i64 a0_3, .int .i64 a0_4, .string a0_5, .slice A0_6 l0_6.length c0_6, .int .i64 a0_7] 52 (0, 0)) (by (with_reducible repeat (first | refine blk_drewN ?_ _ | refine blk_drew ?_ | refine blk_alloc ?_ _)); exact BK101.out)) : gb101 ≠ gb102)); have n7_ := Aside0.mk ((by rw [hg]; exact Nat.ne_of_gt (blk_lt (g := gb101) (o := .cells #[.string a0_0, .string a0_1, .int .i64 a0_2, .int .i64 a0_3, .int .i64 a0_4, .string a0_5, .slice A0_6 l0_6.length c0_6, .int .i64 a0_7] 52 (0, 0)) (by (with_reducible repeat (first | refine blk_drewN ?_ _ | refine blk_drew ?_ | refine blk_alloc ?_ _)); exact BK101.out)) : gb102 ≠ gb101)); clear HO0_6; clear BK101; clear HB; have HO0_6 := n0_; have BK101 := n1_; have HB := n2_; have BK102 := n3_; have GW102 := n4_; have GE102 := n5_; have NB101_102 := n6_; have NB102_101 := n7_; clear n0_ n1_ n2_ n3_ n4_ n5_ n6_ n7_; clear hb hbox hg; have hnb10 := NB101_102.out; have hnc10 := NB102_101.out; have hcz11_0 : w9.cell? ⟨gb101, 0, none⟩ = some (.string a0_0) := (blk_cell BK101.out 0).trans rfl; have hcz11_1 : w9.cell? ⟨gb101, 1, none⟩ = some (.string a0_1) := (blk_cell BK101.out 1).trans rfl; have hcz11_2 : w9.cell? ⟨gb101, 2, none⟩ = some (.int .i64 a0_2) := (blk_cell BK101.out 2).trans rfl; have hcz11_3 : w9.cell? ⟨gb101, 3, none⟩ = some (.int .i64 a0_3) := (blk_cell BK101.out 3).trans rfl; have hcz11_4 : w9.cell? ⟨gb101, 4, none⟩ = some (.int .i64 a0_4) := (blk_cell BK101.out 4).trans rfl; have hcz11_5 : w9.cell? ⟨gb101, 5, none⟩ = some (.string a0_5) := (blk_cell BK101.out 5).trans rfl; have hcz11_6 : w9.cell? ⟨gb101, 6, none⟩ = some (.slice A0_6 l0_6.length c0_6) := (blk_cell BK101.out 6).trans rfl; have hcz11_7 : w9.cell? ⟨gb101, 7, none⟩ = some (.int .i64 a0_7) := (blk_cell BK101.out 7).trans rfl; have hfz11_0 := blk_frozen BK101.out 0; have hfz11_1 := blk_frozen BK101.out 1; have hfz11_2 := blk_frozen BK101.out 2; have hfz11_3 := blk_frozen BK101.out 3; have hfz11_4 := blk_frozen BK101.out 4; have hfz11_5 := blk_frozen BK101.out 5; have hfz11_6 := blk_frozen BK101.out 6; have hfz11_7 := blk_frozen BK101.out 7) | ((with_reducible refine gate_store (t := 9) (p := 10) rfl ?_); refine store_event (t := 9) (p := 10) (v := ?vo_w12) (w1 := (w9.setCell ⟨gb101, 5, none⟩ (.string (a0_5.extract 0 ((ji2) : Int).toNat)))) ?hg ?ho ?hn ?hr ?_; (case ho => rfl); (case hg => rfl); (case hn => rfl); (case hr => first | (go_simp; done) | (go_simp; rfl)); intro w12 hw; have n0_ : Aside0 (Kd.V (Kd.int .i64) 3 w12 w.heap.size (fun k_ => (P0_6_ k_ ∨ w.heap.size ≤ k_) ∧ k_ ≠ gb101 ∧ k_ ≠ gb102) (.slice A0_6 l0_6.length c0_6) l0_6) := ⟨(by rw [hw]; exact (by (with_reducible repeat (first | apply Kd.V_alloc | apply Kd.V_drewN | apply Kd.V_drew)); exact Kd.V_mono (Kd.V_far (p := ⟨gb101, 5, none⟩) (Kd.V_mono HO0_6.out (fun k_ hk => (⟨hk, hk.1.2⟩ : _ ∧ k_ ≠ gb101))) (fun _ hk => hk.2) (.string (a0_5.extract 0 ((ji2) : Int).toNat))) (fun _ hk => ⟨hk.1.1.1, ⟨hk.1.1.2, hk.1.2⟩⟩)))⟩; have n1_ : Aside0 (w12.heap[gb101]? = some (.cells #[.string a0_0, .string a0_1, .int .i64 a0_2, .int .i64 a0_3, .int .i64 a0_4, .string (a0_5.extract 0 ((ji2) : Int).toNat), .slice A0_6 l0_6.length c0_6, .int .i64 a0_7] 52 (0, 0))) := ⟨(by rw [hw]; exact (by (with_reducible repeat (first | refine blk_drewN ?_ _ | refine blk_drew ?_ | refine blk_alloc ?_ _)); refine blk_put (cs := #[.string a0_0, .string a0_1, .int .i64 a0_2, .int .i64 a0_3, .int .i64 a0_4, .string a0_5, .slice A0_6 l0_6.length c0_6, .int .i64 a0_7]) ?_ 5 _ rfl; (with_reducible repeat (first | refine blk_drewN ?_ _ | refine blk_drew ?_ | refine blk_alloc ?_ _)); exact BK101.out))⟩; have n2_ : Aside0 (w12.heap[gb102]? = some (.cells #[.string (⟨#[]⟩ : ByteArray), .string (⟨#[]⟩ : ByteArray), .int .i64 0, .int .i64 0, .int .i64 0, .string (⟨#[]⟩ : ByteArray), .slice none 0 0, .int .i64 0] 52 (0, 0))) := ⟨(by rw [hw]; exact (by (with_reducible repeat (first | refine blk_drewN ?_ _ | refine blk_drew ?_ | refine blk_alloc ?_ _)); refine blk_far ?_ NB102_101.out _; (with_reducible repeat (first | refine blk_drewN ?_ _ | refine blk_drew ?_ | refine blk_alloc ?_ _)); exact BK102.out))⟩; have n3_ : Aside0 (Below w.heap.size w w12) := ⟨(by rw [hw]; exact (by repeat (first | (with_reducible first | exact HB.out | apply below_alloc | apply pw_below_drewN | apply below_drew1 | refine below_set ?_ GE101.out | refine below_set ?_ GE102.out) | exact HB.out)))⟩; clear hw; clear HO0_6; clear BK101; clear BK102; clear HB; have HO0_6 := n0_; have BK101 := n1_; have BK102 := n2_; have HB := n3_; clear n0_ n1_ n2_ n3_; have hcz13_0 : w12.cell? ⟨gb101, 0, none⟩ = some (.string a0_0) := (blk_cell BK101.out 0).trans rfl; have hcz13_1 : w12.cell? ⟨gb101, 1, none⟩ = some (.string a0_1) := (blk_cell BK101.out 1).trans rfl; have hcz13_2 : w12.cell? ⟨gb101, 2, none⟩ = some (.int .i64 a0_2) := (blk_cell BK101.out 2).trans rfl; have hcz13_3 : w12.cell? ⟨gb101, 3, none⟩ = some (.int .i64 a0_3) := (blk_cell BK101.out 3).trans rfl; have hcz13_4 : w12.cell? ⟨gb101, 4, none⟩ = some (.int .i64 a0_4) := (blk_cell BK101.out 4).trans rfl; have hcz13_5 : w12.cell? ⟨gb101, 5, none⟩ = some (.string (a0_5.extract 0 ((ji2) : Int).toNat)) := (blk_cell BK101.out 5).trans rfl; have hcz13_6 : w12.cell? ⟨gb101, 6, none⟩ = some (.slice A0_6 l0_6.length c0_6) := (blk_cell BK101.out 6).trans rfl; have hcz13_7 : w12.cell? ⟨gb101, 7, none⟩ = some (.int .i64 a0_7) := (blk_cell BK101.out 7).trans rfl; have hfz13_0 := blk_frozen BK101.out 0; have hfz13_1 := blk_frozen BK101.out 1; have hfz13_2 := blk_frozen BK101.out 2; have hfz13_3 := blk_frozen BK101.out 3; have hfz13_4 := blk_frozen BK101.out 4; have hfz13_5 := blk_frozen BK101.out 5; have hfz13_6 := blk_frozen BK101.out 6; have hfz13_7 := blk_frozen BK101.out 7; have q14 : ((ji5) : Int) ≤ ((l0_6.length : Int) : Int) := of_decide_eq_true (by first | (with_reducible assumption) | assumption); obtain ⟨i014, hi014, _, hsz14, _⟩ := info_parts info3; have hroom14 : l0_6.length ≤ c0_6 := (Kd.V_reads' HO0_6.out).2.1; have hC14 : Kd.F (Kd.int .i64) _ _ A0_6 l0_6.length l0_6 := (Kd.V_at (base := w.heap.size) HO0_6.out).2.2; have hcut14 := cut_to (P := Tryd.prog) 28 3 .i64 Tryd.underlying28 hi014 A0_6 l0_6.length c0_6 (ji5) (of_decide_eq_true (by first | (with_reducible assumption) | assumption)) q14 hroom14; have hr14 := Kd.F_take (m := ((ji5) : Int).toNat) hC14 (by omega); have hy14 : y103.length = ((ji5) : Int).toNat := (by rw [Ny103.out, List.length_take]; omega); rw [← Ny103.out] at hr14; rw [← hy14] at hcut14; have HO107 := Aside0.mk (show Kd.V (Kd.int .i64) 3 _ w.heap.size _ (.slice A0_6 y103.length c0_6) y103 from Kd.V_mk (by omega) hr14); have HC107 := Aside0.mk (show y103.length ≤ c0_6 from by omega); clear hr14 hC14 hroom14 hi014 hsz14; have KY14 := Aside0.mk hy14; clear hy14; replace q14 := eq_true q14; have hcz15_0 : w12.cell? ⟨gb102, 0, none⟩ = some (.string (⟨#[]⟩ : ByteArray)) := (blk_cell BK102.out 0).trans rfl; have hcz15_1 : w12.cell? ⟨gb102, 1, none⟩ = some (.string (⟨#[]⟩ : ByteArray)) := (blk_cell BK102.out 1).trans rfl; have hcz15_2 : w12.cell? ⟨gb102, 2, none⟩ = some (.int .i64 0) := (blk_cell BK102.out 2).trans rfl; have hcz15_3 : w12.cell? ⟨gb102, 3, none⟩ = some (.int .i64 0) := (blk_cell BK102.out 3).trans rfl; have hcz15_4 : w12.cell? ⟨gb102, 4, none⟩ = some (.int .i64 0) := (blk_cell BK102.out 4).trans rfl; have hcz15_5 : w12.cell? ⟨gb102, 5, none⟩ = some (.string (⟨#[]⟩ : ByteArray)) := (blk_cell BK102.out 5).trans rfl; have hcz15_6 : w12.cell? ⟨gb102, 6, none⟩ = some (.slice none 0 0) := (blk_cell BK102.out 6).trans rfl; have hcz15_7 : w12.cell? ⟨gb102, 7, none⟩ = some (.int .i64 0) := (blk_cell BK102.out 7).trans rfl; have hfz15_0 := blk_frozen BK102.out 0; have hfz15_1 := blk_frozen BK102.out 1; have hfz15_2 := blk_frozen BK102.out 2; have hfz15_3 := blk_frozen BK102.out 3; have hfz15_4 := blk_frozen BK102.out 4; have hfz15_5 := blk_frozen BK102.out 5; have hfz15_6 := blk_frozen BK102.out 6; have hfz15_7 := blk_frozen BK102.out 7))
          refine bodyPost_ret (results_cell_row rfl _ _ gb102 52 #[.string a0_0, .string a0_1, .int .i64 a0_2, .int .i64 a0_3, .int .i64 a0_4, .string (a0_5.extract 0 ((ji2) : Int).toNat), .slice A0_6 y103.length c0_6, .int .i64 a0_7] (0, 0) _ rfl (by (with_reducible repeat (first | refine blk_drewN ?_ _ | refine blk_drew ?_ | refine blk_alloc ?_ _)); refine blk_put (cs := #[.string a0_0, .string a0_1, .int .i64 a0_2, .int .i64 a0_3, .int .i64 a0_4, .string (a0_5.extract 0 ((ji2) : Int).toNat), .slice A0_6 y103.length c0_6, .int .i64 0]) ?_ 7 _ rfl; (with_reducible repeat (first | refine blk_drewN ?_ _ | refine blk_drew ?_ | refine blk_alloc ?_ _)); refine blk_put (cs := #[.string a0_0, .string a0_1, .int .i64 a0_2, .int .i64 a0_3, .int .i64 a0_4, .string (a0_5.extract 0 ((ji2) : Int).toNat), .slice none 0 0, .int .i64 0]) ?_ 6 _ rfl; (with_reducible repeat (first | refine blk_drewN ?_ _ | refine blk_drew ?_ | refine blk_alloc ?_ _)); refine blk_put (cs := #[.string a0_0, .string a0_1, .int .i64 a0_2, .int .i64 a0_3, .int .i64 a0_4, .string (⟨#[]⟩ : ByteArray), .slice none 0 0, .int .i64 0]) ?_ 5 _ rfl; (with_reducible repeat (first | refine blk_drewN ?_ _ | refine blk_drew ?_ | refine blk_alloc ?_ _)); refine blk_put (cs := #[.string a0_0, .string a0_1, .int .i64 a0_2, .int .i64 a0_3, .int .i64 0, .string (⟨#[]⟩ : ByteArray), .slice none 0 0, .int .i64 0]) ?_ 4 _ rfl; (with_reducible repeat (first | refine blk_drewN ?_ _ | refine blk_drew ?_ | refine blk_alloc ?_ _)); refine blk_put (cs := #[.string a0_0, .string a0_1, .int .i64 a0_2, .int .i64 0, .int .i64 0, .string (⟨#[]⟩ : ByteArray), .slice none 0 0, .int .i64 0]) ?_ 3 _ rfl; (with_reducible repeat (first | refine blk_drewN ?_ _ | refine blk_drew ?_ | refine blk_alloc ?_ _)); refine blk_put (cs := #[.string a0_0, .string a0_1, .int .i64 0, .int .i64 0, .int .i64 0, .string (⟨#[]⟩ : ByteArray), .slice none 0 0, .int .i64 0]) ?_ 2 _ rfl; (with_reducible repeat (first | refine blk_drewN ?_ _ | refine blk_drew ?_ | refine blk_alloc ?_ _)); refine blk_put (cs := #[.string a0_0, .string (⟨#[]⟩ : ByteArray), .int .i64 0, .int .i64 0, .int .i64 0, .string (⟨#[]⟩ : ByteArray), .slice none 0 0, .int .i64 0]) ?_ 1 _ rfl; (with_reducible repeat (first | refine blk_drewN ?_ _ | refine blk_drew ?_ | refine blk_alloc ?_ _)); refine blk_put (cs := #[.string (⟨#[]⟩ : ByteArray), .string (⟨#[]⟩ : ByteArray), .int .i64 0, .int .i64 0, .int .i64 0, .string (⟨#[]⟩ : ByteArray), .slice none 0 0, .int .i64 0]) ?_ 0 _ rfl; (with_reducible repeat (first | refine blk_drewN ?_ _ | refine blk_drew ?_ | refine blk_alloc ?_ _)); refine blk_far ?_ NB102_101.out _; (with_reducible repeat (first | refine blk_drewN ?_ _ | refine blk_drew ?_ | refine blk_alloc ?_ _)); exact BK102.out) Tryd.underlying52 rfl (by kernel_rfl)) rfl ?_
          exact ⟨_, by first | rfl | (simp [errW_none, errW_some, erT_no, erV_no, erT_at, erV_at] <;> rfl) | (simp only [← hji2, ← hji5]; first | rfl | (simp [errW_none, errW_some, erT_no, erV_no, erT_at, erV_at] <;> rfl)) | (simp [*, errW_none, errW_some, erT_no, erV_no, erT_at, erV_at] <;> rfl), by (with_reducible repeat (first | apply Kd.V_alloc | apply Kd.V_drewN | apply Kd.V_drew)); exact Kd.V_mono (Kd.V_far (p := ⟨gb102, 7, none⟩) (Kd.V_far (p := ⟨gb102, 6, none⟩) (Kd.V_far (p := ⟨gb102, 5, none⟩) (Kd.V_far (p := ⟨gb102, 4, none⟩) (Kd.V_far (p := ⟨gb102, 3, none⟩) (Kd.V_far (p := ⟨gb102, 2, none⟩) (Kd.V_far (p := ⟨gb102, 1, none⟩) (Kd.V_far (p := ⟨gb102, 0, none⟩) (Kd.V_far (p := ⟨gb101, 6, none⟩) (Kd.V_mono (Kd.V_mono HO107.out (fun k_ hk => (⟨hk, hk.2.1⟩ : _ ∧ k_ ≠ gb101))) (fun k_ hk => (⟨hk, hk.1.2.2⟩ : _ ∧ k_ ≠ gb102))) (fun _ hk => hk.1.2) (.slice A0_6 y103.length c0_6)) (fun _ hk => hk.2) (.string a0_0)) (fun _ hk => hk.2) (.string a0_1)) (fun _ hk => hk.2) (.int .i64 a0_2)) (fun _ hk => hk.2) (.int .i64 a0_3)) (fun _ hk => hk.2) (.int .i64 a0_4)) (fun _ hk => hk.2) (.string (a0_5.extract 0 ((ji2) : Int).toNat))) (fun _ hk => hk.2) (.slice A0_6 y103.length c0_6)) (fun _ hk => hk.2) (.int .i64 a0_7)) (fun _ hk => hk.1.1.1), by repeat (first | (with_reducible first | exact HB.out | apply below_alloc | apply pw_below_drewN | apply below_drew1 | refine below_set ?_ GE101.out | refine below_set ?_ GE102.out) | exact HB.out)⟩
        · rw [if_neg c7] at H
          exact absurd H (by simp)
      · rw [if_neg c6] at H
        exact absurd H (by simp)
    · rw [if_neg c4] at H
      exact absurd H (by simp)
  · rw [if_neg c3] at H
    exact absurd H (by simp)

/-! ### why_titles: function 52 -/
/-- The titles, by their codes, as cells. -/
def why_titles.cells : Array Value := #[.string ⟨#[]⟩, .string ⟨#[100, 101, 99, 108, 97, 114, 101, 100, 32, 97, 103, 97, 105, 110]⟩, .string ⟨#[117, 110, 100, 101, 102, 105, 110, 101, 100]⟩, .string ⟨#[110, 111, 116, 32, 97, 32, 116, 121, 112, 101]⟩, .string ⟨#[110, 111, 116, 32, 97, 32, 118, 97, 108, 117, 101]⟩, .string ⟨#[110, 111, 32, 115, 117, 99, 104, 32, 112, 97, 99, 107, 97, 103, 101]⟩, .string ⟨#[112, 97, 99, 107, 97, 103, 101, 115, 32, 98, 114, 105, 110, 103, 32, 105, 110, 32, 111, 110, 101, 32, 97, 110, 111, 116, 104, 101, 114]⟩, .string ⟨#[98, 114, 111, 117, 103, 104, 116, 32, 105, 110, 32, 97, 110, 100, 32, 110, 111, 116, 32, 117, 115, 101, 100]⟩, .string ⟨#[100, 101, 99, 108, 97, 114, 101, 100, 32, 97, 110, 100, 32, 110, 111, 116, 32, 117, 115, 101, 100]⟩, .string ⟨#[108, 97, 98, 101, 108, 32, 110, 111, 116, 32, 117, 115, 101, 100]⟩, .string ⟨#[106, 117, 109, 112, 32, 116, 111, 32, 110, 111, 119, 104, 101, 114, 101]⟩, .string ⟨#[108, 97, 98, 101, 108, 32, 100, 101, 99, 108, 97, 114, 101, 100, 32, 97, 103, 97, 105, 110]⟩, .string ⟨#[109, 105, 115, 115, 105, 110, 103, 32, 114, 101, 116, 117, 114, 110]⟩, .string ⟨#[110, 111, 116, 32, 97, 32, 99, 111, 110, 115, 116, 97, 110, 116]⟩, .string ⟨#[100, 111, 101, 115, 32, 110, 111, 116, 32, 102, 105, 116]⟩, .string ⟨#[100, 105, 118, 105, 115, 105, 111, 110, 32, 98, 121, 32, 122, 101, 114, 111]⟩, .string ⟨#[109, 105, 115, 109, 97, 116, 99, 104, 101, 100, 32, 116, 121, 112, 101, 115]⟩, .string ⟨#[111, 112, 101, 114, 97, 116, 111, 114, 32, 100, 111, 101, 115, 32, 110, 111, 116, 32, 103, 111, 32, 119, 105, 116, 104, 32, 105, 116]⟩, .string ⟨#[110, 111, 116, 32, 97, 32, 99, 111, 110, 100, 105, 116, 105, 111, 110]⟩, .string ⟨#[99, 97, 110, 110, 111, 116, 32, 98, 101, 32, 97, 115, 115, 105, 103, 110, 101, 100]⟩, .string ⟨#[119, 114, 111, 110, 103, 32, 110, 117, 109, 98, 101, 114, 32, 111, 102, 32, 118, 97, 108, 117, 101, 115]⟩, .string ⟨#[99, 97, 110, 110, 111, 116, 32, 98, 101, 32, 97, 115, 115, 105, 103, 110, 101, 100, 32, 116, 111]⟩, .string ⟨#[110, 111, 32, 110, 101, 119, 32, 118, 97, 114, 105, 97, 98, 108, 101, 115]⟩, .string ⟨#[99, 97, 110, 110, 111, 116, 32, 98, 101, 32, 99, 97, 108, 108, 101, 100]⟩, .string ⟨#[119, 114, 111, 110, 103, 32, 110, 117, 109, 98, 101, 114, 32, 111, 102, 32, 97, 114, 103, 117, 109, 101, 110, 116, 115]⟩, .string ⟨#[110, 111, 32, 118, 97, 108, 117, 101]⟩, .string ⟨#[118, 97, 108, 117, 101, 32, 110, 111, 116, 32, 117, 115, 101, 100]⟩, .string ⟨#[110, 111, 32, 115, 117, 99, 104, 32, 102, 105, 101, 108, 100, 32, 111, 114, 32, 109, 101, 116, 104, 111, 100]⟩, .string ⟨#[109, 111, 114, 101, 32, 116, 104, 97, 110, 32, 111, 110, 101, 32, 115, 117, 99, 104, 32, 102, 105, 101, 108, 100, 32, 111, 114, 32, 109, 101, 116, 104, 111, 100]⟩, .string ⟨#[99, 97, 110, 110, 111, 116, 32, 98, 101, 32, 105, 110, 100, 101, 120, 101, 100]⟩, .string ⟨#[111, 117, 116, 32, 111, 102, 32, 114, 97, 110, 103, 101]⟩, .string ⟨#[99, 97, 110, 110, 111, 116, 32, 98, 101, 32, 97, 115, 115, 101, 114, 116, 101, 100]⟩, .string ⟨#[109, 105, 115, 115, 105, 110, 103, 32, 109, 101, 116, 104, 111, 100]⟩, .string ⟨#[119, 114, 111, 110, 103, 32, 108, 105, 116, 101, 114, 97, 108]⟩, .string ⟨#[116, 104, 101, 114, 101, 32, 97, 108, 114, 101, 97, 100, 121]⟩, .string ⟨#[119, 114, 111, 110, 103, 32, 117, 115, 101, 32, 111, 102, 32, 97, 32, 99, 104, 97, 110, 110, 101, 108]⟩, .string ⟨#[99, 97, 110, 110, 111, 116, 32, 98, 101, 32, 114, 97, 110, 103, 101, 100, 32, 111, 118, 101, 114]⟩, .string ⟨#[110, 111, 116, 32, 97, 32, 99, 97, 108, 108]⟩, .string ⟨#[119, 114, 111, 110, 103, 32, 117, 115, 101, 32, 111, 102, 32, 119, 104, 97, 116, 32, 105, 115, 32, 98, 117, 105, 108, 116, 32, 105, 110]⟩, .string ⟨#[97, 114, 103, 117, 109, 101, 110, 116, 115, 32, 100, 111, 32, 110, 111, 116, 32, 103, 111, 32, 116, 111, 103, 101, 116, 104, 101, 114]⟩, .string ⟨#[116, 121, 112, 101, 32, 97, 114, 103, 117, 109, 101, 110, 116, 32, 110, 111, 116, 32, 107, 110, 111, 119, 110]⟩, .string ⟨#[119, 114, 111, 110, 103, 32, 116, 121, 112, 101, 32, 97, 114, 103, 117, 109, 101, 110, 116, 115]⟩, .string ⟨#[100, 111, 101, 115, 32, 110, 111, 116, 32, 103, 111, 32, 119, 105, 116, 104, 32, 105, 116, 115, 32, 98, 111, 117, 110, 100]⟩, .string ⟨#[116, 121, 112, 101, 32, 119, 105, 116, 104, 105, 110, 32, 105, 116, 115, 101, 108, 102]⟩, .string ⟨#[116, 121, 112, 101, 32, 103, 114, 111, 119, 115, 32, 119, 105, 116, 104, 111, 117, 116, 32, 101, 110, 100]⟩, .string ⟨#[104, 97, 110, 103, 115, 32, 111, 110, 32, 105, 116, 115, 101, 108, 102]⟩, .string ⟨#[99, 97, 110, 110, 111, 116, 32, 104, 97, 118, 101, 32, 109, 101, 116, 104, 111, 100, 115]⟩, .string ⟨#[102, 105, 101, 108, 100, 32, 111, 114, 32, 109, 101, 116, 104, 111, 100, 32, 116, 104, 101, 114, 101, 32, 97, 108, 114, 101, 97, 100, 121]⟩, .string ⟨#[99, 97, 110, 110, 111, 116, 32, 98, 101, 32, 99, 111, 110, 118, 101, 114, 116, 101, 100]⟩, .string ⟨#[119, 114, 111, 110, 103, 32, 99, 111, 110, 115, 116, 114, 97, 105, 110, 116]⟩, .string ⟨#[104, 97, 115, 32, 110, 111, 32, 97, 100, 100, 114, 101, 115, 115]⟩, .string ⟨#[110, 111, 116, 32, 116, 111, 108, 100, 32, 116, 111, 32, 111, 116, 104, 101, 114, 32, 112, 97, 99, 107, 97, 103, 101, 115]⟩, .string ⟨#[119, 114, 111, 110, 103, 32, 112, 97, 114, 97, 109, 101, 116, 101, 114, 115]⟩]
theorem why_titles.size : why_titles.cells.size = 53 := rfl
theorem why_titles.one : why_titles.cells.all (·.oneCell') = true := by decide +kernel
theorem why_titles.info : (Tryd.prog.info? 87).map (fun i => (i.zero, i.size)) = some (some (.agg (Array.replicate 53 (.string ByteArray.empty))), 53) := by kernel_rfl
theorem why_titles.sized : (Tryd.prog.info? 87).map (·.size) = some 53 := (zero_of_info why_titles.info).2
theorem why_titles.row_block (w : World) (g k : Nat) (cs : Array Value) (h : k ≠ g) : (w.setRow g cs).heap[k]? = w.heap[k]? := by
  unfold World.setRow
  show (w.heap.modify g _)[k]? = _
  rw [Array.getElem?_modify, if_neg (fun e => h e.symm)]
theorem why_titles.row_below {b g : Nat} {w0 w : World} (cs : Array Value) (h : Below b w0 w) (hg : b ≤ g) : Below b w0 (w.setRow g cs) :=
  ⟨h.os, h.tape, h.output, by have := h.size; simpa [World.setRow] using this, fun i hi => (why_titles.row_block w g i cs (by omega)).trans (h.block i hi)⟩
theorem why_titles.alloc_run (w : World) : (do let r ← Instr.alloc 87 true (.tuple #[]); pure (Next.value r) : Sem Next).run Tryd.prog w = .ok (.value (.pointer (some ⟨w.heap.size, 0, none⟩))) (w.alloc (.cells (Array.replicate 53 (.string ByteArray.empty)) 87 (0, 0))) := by
  have hz := (zero_of_info why_titles.info).1 w
  simp [Instr.alloc, hz, Result.andThen, newVar, newRow, Value.cells]
theorem why_titles.store_run (w : World) (g : Nat) (old : Array Value) (ho : old.size = 53) (hx : w.heap[g]? = some (.cells old 87 (0, 0))) : (do Instr.storeAt 87 (.pointer (some ⟨g, 0, none⟩)) (.agg why_titles.cells); pure Next.skip : Sem Next).run Tryd.prog w = .ok .skip (w.setRow g why_titles.cells) := by
  have := run_storeVar_row (P := Tryd.prog) w g 87 87 old why_titles.cells hx (by rw [why_titles.size]; exact why_titles.sized) (by rw [ho, why_titles.size]) why_titles.one
  simp only [Instr.storeAt, Instr.sureAddr, Sem.run_bind, Sem.run_pure, Result.andThen, this]
set_option maxHeartbeats 4000000 in
set_option maxRecDepth 100000 in
theorem why_titles.calls (w : World) : Calls Tryd.prog 52 #[] w fun e w' => e = .returned (.agg why_titles.cells) ∧ Below w.heap.size w w' := by
  go_enter Tryd.func52, Tryd.ntmps52
  go_wp2_with (first
    | ((with_reducible refine gate_dst (N := 0) rfl ?_); refine box_event ?hg (N := 0) ?hd (cs := Array.replicate 53 (.string ByteArray.empty)) (t := 87) ?hr ?_; (case hd => rfl); (case hg => rfl); (case hr => exact why_titles.alloc_run _); intro g eg w2 hx hb; have X2 := Aside0.mk hx; have B2 := Aside0.mk hb; have GE := Aside0.mk (Nat.le_of_eq eg.symm); clear hx hb eg)
    | ((with_reducible refine gate_store (t := 87) (p := 0) rfl ?_); refine store_event (t := 87) (p := 0) (v := .tmp 1) (w1 := w2.setRow g why_titles.cells) ?hg ?ho ?hn ?hr ?_; (case ho => rfl); (case hg => rfl); (case hn => rfl); (case hr => exact why_titles.store_run w2 g _ (by rw [Array.size_replicate]) X2.out); intro w3 hw3; have X3 := Aside0.mk (show w3.heap[g]? = some (.cells why_titles.cells 87 (0, 0)) by rw [hw3]; exact setRow_heap w2 g _ _ _ _ X2.out); have B3 := Aside0.mk (show Below w.heap.size w w3 by rw [hw3]; exact why_titles.row_below _ B2.out GE.out); clear hw3))
  refine bodyPost_ret (results_cell_row rfl _ _ g 87 why_titles.cells (0, 0) _ rfl X3.out Tryd.underlying87 rfl (by rw [why_titles.size]; exact why_titles.sized)) rfl ?_
  exact ⟨rfl, B3.out⟩

/-! ### api_Errno_more: function 101 -/
def api_Errno_more.f (a0 : Int) : Option (ByteArray) := if a0 = 18 then (some (⟨#[119, 114, 111, 110, 103, 32, 116, 121, 112, 101]⟩ : ByteArray)) else (if a0 = 19 then (some (⟨#[109, 105, 115, 115, 105, 110, 103, 32, 109, 101, 116, 104, 111, 100]⟩ : ByteArray)) else (if a0 = 20 then (some (⟨#[109, 101, 116, 104, 111, 100, 32, 111, 102, 32, 116, 104, 101, 32, 112, 111, 105, 110, 116, 101, 114]⟩ : ByteArray)) else (if a0 = 21 then (some (⟨#[97, 109, 98, 105, 103, 117, 111, 117, 115]⟩ : ByteArray)) else (if a0 = 22 then (some (⟨#[110, 111, 116, 32, 105, 110, 32, 116, 104, 101, 32, 99, 111, 110, 115, 116, 114, 97, 105, 110, 116]⟩ : ByteArray)) else (if a0 = 23 then (some (⟨#[99, 97, 110, 110, 111, 116, 32, 105, 110, 102, 101, 114]⟩ : ByteArray)) else (if a0 = 24 then (some (⟨#[99, 97, 110, 110, 111, 116, 32, 98, 101, 32, 111, 110, 101]⟩ : ByteArray)) else (if a0 = 25 then (some (⟨#[99, 121, 99, 108, 101]⟩ : ByteArray)) else (some (⟨#[63]⟩ : ByteArray)))))))))
set_option maxHeartbeats 8000000 in
set_option maxRecDepth 100000 in
theorem api_Errno_more.calls (a0 : Int) (r : ByteArray) (w : World) (h : api_Errno_more.f a0 = some r) :
    Calls Tryd.prog 101 #[.int .i64 a0] w fun e w' => e = .returned (.string r) ∧ Drawn0 w w' := by
  have H : (if a0 = 18 then (some (⟨#[119, 114, 111, 110, 103, 32, 116, 121, 112, 101]⟩ : ByteArray)) else (if a0 = 19 then (some (⟨#[109, 105, 115, 115, 105, 110, 103, 32, 109, 101, 116, 104, 111, 100]⟩ : ByteArray)) else (if a0 = 20 then (some (⟨#[109, 101, 116, 104, 111, 100, 32, 111, 102, 32, 116, 104, 101, 32, 112, 111, 105, 110, 116, 101, 114]⟩ : ByteArray)) else (if a0 = 21 then (some (⟨#[97, 109, 98, 105, 103, 117, 111, 117, 115]⟩ : ByteArray)) else (if a0 = 22 then (some (⟨#[110, 111, 116, 32, 105, 110, 32, 116, 104, 101, 32, 99, 111, 110, 115, 116, 114, 97, 105, 110, 116]⟩ : ByteArray)) else (if a0 = 23 then (some (⟨#[99, 97, 110, 110, 111, 116, 32, 105, 110, 102, 101, 114]⟩ : ByteArray)) else (if a0 = 24 then (some (⟨#[99, 97, 110, 110, 111, 116, 32, 98, 101, 32, 111, 110, 101]⟩ : ByteArray)) else (if a0 = 25 then (some (⟨#[99, 121, 99, 108, 101]⟩ : ByteArray)) else (some (⟨#[63]⟩ : ByteArray)))))))))) = some r := h
  clear h
  by_cases c2 : a0 = 18
  · rw [if_pos c2] at H
    have c2b0 : (a0 == 18) = true := beq_iff_eq.mpr c2
    have c2b1 : (a0 != 18) = false := bne_eq_false_iff_eq.mpr c2
    clear c2
    obtain rfl := Option.some.inj H
    go_enter Tryd.func101, Tryd.ntmps101
    go_wp2
    go_ret
    exact ⟨by first | rfl | (simp; done) | (simp [*]; done), by repeat (first | exact Drawn0.refl _ | apply Drawn0.step)⟩
  · rw [if_neg c2] at H
    have c2b0 : (a0 == 18) = false := beq_eq_false_iff_ne.mpr c2
    have c2b1 : (a0 != 18) = true := bne_iff_ne.mpr c2
    by_cases c3 : a0 = 19
    · rw [if_pos c3] at H
      have c3b0 : (a0 == 19) = true := beq_iff_eq.mpr c3
      have c3b1 : (a0 != 19) = false := bne_eq_false_iff_eq.mpr c3
      clear c3
      obtain rfl := Option.some.inj H
      go_enter Tryd.func101, Tryd.ntmps101
      go_wp2
      go_ret
      exact ⟨by first | rfl | (simp; done) | (simp [*]; done), by repeat (first | exact Drawn0.refl _ | apply Drawn0.step)⟩
    · rw [if_neg c3] at H
      have c3b0 : (a0 == 19) = false := beq_eq_false_iff_ne.mpr c3
      have c3b1 : (a0 != 19) = true := bne_iff_ne.mpr c3
      by_cases c4 : a0 = 20
      · rw [if_pos c4] at H
        have c4b0 : (a0 == 20) = true := beq_iff_eq.mpr c4
        have c4b1 : (a0 != 20) = false := bne_eq_false_iff_eq.mpr c4
        clear c4
        obtain rfl := Option.some.inj H
        go_enter Tryd.func101, Tryd.ntmps101
        go_wp2
        go_ret
        exact ⟨by first | rfl | (simp; done) | (simp [*]; done), by repeat (first | exact Drawn0.refl _ | apply Drawn0.step)⟩
      · rw [if_neg c4] at H
        have c4b0 : (a0 == 20) = false := beq_eq_false_iff_ne.mpr c4
        have c4b1 : (a0 != 20) = true := bne_iff_ne.mpr c4
        by_cases c5 : a0 = 21
        · rw [if_pos c5] at H
          have c5b0 : (a0 == 21) = true := beq_iff_eq.mpr c5
          have c5b1 : (a0 != 21) = false := bne_eq_false_iff_eq.mpr c5
          clear c5
          obtain rfl := Option.some.inj H
          go_enter Tryd.func101, Tryd.ntmps101
          go_wp2
          go_ret
          exact ⟨by first | rfl | (simp; done) | (simp [*]; done), by repeat (first | exact Drawn0.refl _ | apply Drawn0.step)⟩
        · rw [if_neg c5] at H
          have c5b0 : (a0 == 21) = false := beq_eq_false_iff_ne.mpr c5
          have c5b1 : (a0 != 21) = true := bne_iff_ne.mpr c5
          by_cases c6 : a0 = 22
          · rw [if_pos c6] at H
            have c6b0 : (a0 == 22) = true := beq_iff_eq.mpr c6
            have c6b1 : (a0 != 22) = false := bne_eq_false_iff_eq.mpr c6
            clear c6
            obtain rfl := Option.some.inj H
            go_enter Tryd.func101, Tryd.ntmps101
            go_wp2
            go_ret
            exact ⟨by first | rfl | (simp; done) | (simp [*]; done), by repeat (first | exact Drawn0.refl _ | apply Drawn0.step)⟩
          · rw [if_neg c6] at H
            have c6b0 : (a0 == 22) = false := beq_eq_false_iff_ne.mpr c6
            have c6b1 : (a0 != 22) = true := bne_iff_ne.mpr c6
            by_cases c7 : a0 = 23
            · rw [if_pos c7] at H
              have c7b0 : (a0 == 23) = true := beq_iff_eq.mpr c7
              have c7b1 : (a0 != 23) = false := bne_eq_false_iff_eq.mpr c7
              clear c7
              obtain rfl := Option.some.inj H
              go_enter Tryd.func101, Tryd.ntmps101
              go_wp2
              go_ret
              exact ⟨by first | rfl | (simp; done) | (simp [*]; done), by repeat (first | exact Drawn0.refl _ | apply Drawn0.step)⟩
            · rw [if_neg c7] at H
              have c7b0 : (a0 == 23) = false := beq_eq_false_iff_ne.mpr c7
              have c7b1 : (a0 != 23) = true := bne_iff_ne.mpr c7
              by_cases c8 : a0 = 24
              · rw [if_pos c8] at H
                have c8b0 : (a0 == 24) = true := beq_iff_eq.mpr c8
                have c8b1 : (a0 != 24) = false := bne_eq_false_iff_eq.mpr c8
                clear c8
                obtain rfl := Option.some.inj H
                go_enter Tryd.func101, Tryd.ntmps101
                go_wp2
                go_ret
                exact ⟨by first | rfl | (simp; done) | (simp [*]; done), by repeat (first | exact Drawn0.refl _ | apply Drawn0.step)⟩
              · rw [if_neg c8] at H
                have c8b0 : (a0 == 24) = false := beq_eq_false_iff_ne.mpr c8
                have c8b1 : (a0 != 24) = true := bne_iff_ne.mpr c8
                by_cases c9 : a0 = 25
                · rw [if_pos c9] at H
                  have c9b0 : (a0 == 25) = true := beq_iff_eq.mpr c9
                  have c9b1 : (a0 != 25) = false := bne_eq_false_iff_eq.mpr c9
                  clear c9
                  obtain rfl := Option.some.inj H
                  go_enter Tryd.func101, Tryd.ntmps101
                  go_wp2
                  go_ret
                  exact ⟨by first | rfl | (simp; done) | (simp [*]; done), by repeat (first | exact Drawn0.refl _ | apply Drawn0.step)⟩
                · rw [if_neg c9] at H
                  have c9b0 : (a0 == 25) = false := beq_eq_false_iff_ne.mpr c9
                  have c9b1 : (a0 != 25) = true := bne_iff_ne.mpr c9
                  obtain rfl := Option.some.inj H
                  go_enter Tryd.func101, Tryd.ntmps101
                  go_wp2
                  go_ret
                  exact ⟨by first | rfl | (simp; done) | (simp [*]; done), by repeat (first | exact Drawn0.refl _ | apply Drawn0.step)⟩

/-! ### api_Errno_Error: function 84 -/
def api_Errno_Error.f (a0 : Int) : Option (ByteArray) := if a0 = 1 then (some (⟨#[97, 114, 103, 117, 109, 101, 110, 116]⟩ : ByteArray)) else (if a0 = 2 then (some (⟨#[116, 111, 111, 32, 108, 111, 110, 103]⟩ : ByteArray)) else (if a0 = 3 then (some (⟨#[110, 111, 116, 32, 85, 84, 70, 45, 56]⟩ : ByteArray)) else (if a0 = 4 then (some (⟨#[111, 117, 116, 32, 111, 102, 32, 114, 97, 110, 103, 101]⟩ : ByteArray)) else (if a0 = 5 then (some (⟨#[111, 117, 116, 32, 111, 102, 32, 111, 114, 100, 101, 114]⟩ : ByteArray)) else (if a0 = 6 then (some (⟨#[116, 104, 101, 114, 101, 32, 97, 108, 114, 101, 97, 100, 121]⟩ : ByteArray)) else (if a0 = 7 then (some (⟨#[110, 111, 116, 32, 116, 104, 101, 114, 101]⟩ : ByteArray)) else (if a0 = 8 then (some (⟨#[109, 97, 108, 102, 111, 114, 109, 101, 100]⟩ : ByteArray)) else (if a0 = 9 then (some (⟨#[111, 118, 101, 114, 102, 108, 111, 119]⟩ : ByteArray)) else (if a0 = 10 then (some (⟨#[100, 105, 118, 105, 115, 105, 111, 110, 32, 98, 121, 32, 122, 101, 114, 111]⟩ : ByteArray)) else (if a0 = 11 then (some (⟨#[119, 114, 111, 110, 103, 32, 107, 105, 110, 100]⟩ : ByteArray)) else (if a0 = 12 then (some (⟨#[101, 110, 100, 115, 32, 116, 111, 111, 32, 115, 111, 111, 110]⟩ : ByteArray)) else (if a0 = 13 then (some (⟨#[119, 114, 111, 110, 103, 32, 100, 105, 103, 105, 116]⟩ : ByteArray)) else (if a0 = 14 then (some (⟨#[119, 114, 111, 110, 103, 32, 101, 115, 99, 97, 112, 101]⟩ : ByteArray)) else (if a0 = 15 then (some (⟨#[110, 111, 32, 116, 111, 107, 101, 110]⟩ : ByteArray)) else (if a0 = 16 then (some (⟨#[115, 121, 110, 116, 97, 120]⟩ : ByteArray)) else (if a0 = 17 then (some (⟨#[116, 111, 111, 32, 100, 101, 101, 112]⟩ : ByteArray)) else ((api_Errno_more.f a0).bind fun t108 => (some t108))))))))))))))))))
set_option maxHeartbeats 8000000 in
set_option maxRecDepth 100000 in
theorem api_Errno_Error.calls (a0 : Int) (r : ByteArray) (w : World) (h : api_Errno_Error.f a0 = some r) :
    Calls Tryd.prog 84 #[.int .i64 a0] w fun e w' => e = .returned (.string r) ∧ Drawn0 w w' := by
  have H : (if a0 = 1 then (some (⟨#[97, 114, 103, 117, 109, 101, 110, 116]⟩ : ByteArray)) else (if a0 = 2 then (some (⟨#[116, 111, 111, 32, 108, 111, 110, 103]⟩ : ByteArray)) else (if a0 = 3 then (some (⟨#[110, 111, 116, 32, 85, 84, 70, 45, 56]⟩ : ByteArray)) else (if a0 = 4 then (some (⟨#[111, 117, 116, 32, 111, 102, 32, 114, 97, 110, 103, 101]⟩ : ByteArray)) else (if a0 = 5 then (some (⟨#[111, 117, 116, 32, 111, 102, 32, 111, 114, 100, 101, 114]⟩ : ByteArray)) else (if a0 = 6 then (some (⟨#[116, 104, 101, 114, 101, 32, 97, 108, 114, 101, 97, 100, 121]⟩ : ByteArray)) else (if a0 = 7 then (some (⟨#[110, 111, 116, 32, 116, 104, 101, 114, 101]⟩ : ByteArray)) else (if a0 = 8 then (some (⟨#[109, 97, 108, 102, 111, 114, 109, 101, 100]⟩ : ByteArray)) else (if a0 = 9 then (some (⟨#[111, 118, 101, 114, 102, 108, 111, 119]⟩ : ByteArray)) else (if a0 = 10 then (some (⟨#[100, 105, 118, 105, 115, 105, 111, 110, 32, 98, 121, 32, 122, 101, 114, 111]⟩ : ByteArray)) else (if a0 = 11 then (some (⟨#[119, 114, 111, 110, 103, 32, 107, 105, 110, 100]⟩ : ByteArray)) else (if a0 = 12 then (some (⟨#[101, 110, 100, 115, 32, 116, 111, 111, 32, 115, 111, 111, 110]⟩ : ByteArray)) else (if a0 = 13 then (some (⟨#[119, 114, 111, 110, 103, 32, 100, 105, 103, 105, 116]⟩ : ByteArray)) else (if a0 = 14 then (some (⟨#[119, 114, 111, 110, 103, 32, 101, 115, 99, 97, 112, 101]⟩ : ByteArray)) else (if a0 = 15 then (some (⟨#[110, 111, 32, 116, 111, 107, 101, 110]⟩ : ByteArray)) else (if a0 = 16 then (some (⟨#[115, 121, 110, 116, 97, 120]⟩ : ByteArray)) else (if a0 = 17 then (some (⟨#[116, 111, 111, 32, 100, 101, 101, 112]⟩ : ByteArray)) else ((api_Errno_more.f a0).bind fun t108 => (some t108))))))))))))))))))) = some r := h
  clear h
  by_cases c2 : a0 = 1
  · rw [if_pos c2] at H
    have c2b0 : (a0 == 1) = true := beq_iff_eq.mpr c2
    have c2b1 : (a0 != 1) = false := bne_eq_false_iff_eq.mpr c2
    clear c2
    obtain rfl := Option.some.inj H
    go_enter Tryd.func84, Tryd.ntmps84
    go_wp2
    go_ret
    exact ⟨by first | rfl | (simp; done) | (simp [*]; done), by repeat (first | exact Drawn0.refl _ | apply Drawn0.step)⟩
  · rw [if_neg c2] at H
    have c2b0 : (a0 == 1) = false := beq_eq_false_iff_ne.mpr c2
    have c2b1 : (a0 != 1) = true := bne_iff_ne.mpr c2
    by_cases c3 : a0 = 2
    · rw [if_pos c3] at H
      have c3b0 : (a0 == 2) = true := beq_iff_eq.mpr c3
      have c3b1 : (a0 != 2) = false := bne_eq_false_iff_eq.mpr c3
      clear c3
      obtain rfl := Option.some.inj H
      go_enter Tryd.func84, Tryd.ntmps84
      go_wp2
      go_ret
      exact ⟨by first | rfl | (simp; done) | (simp [*]; done), by repeat (first | exact Drawn0.refl _ | apply Drawn0.step)⟩
    · rw [if_neg c3] at H
      have c3b0 : (a0 == 2) = false := beq_eq_false_iff_ne.mpr c3
      have c3b1 : (a0 != 2) = true := bne_iff_ne.mpr c3
      by_cases c4 : a0 = 3
      · rw [if_pos c4] at H
        have c4b0 : (a0 == 3) = true := beq_iff_eq.mpr c4
        have c4b1 : (a0 != 3) = false := bne_eq_false_iff_eq.mpr c4
        clear c4
        obtain rfl := Option.some.inj H
        go_enter Tryd.func84, Tryd.ntmps84
        go_wp2
        go_ret
        exact ⟨by first | rfl | (simp; done) | (simp [*]; done), by repeat (first | exact Drawn0.refl _ | apply Drawn0.step)⟩
      · rw [if_neg c4] at H
        have c4b0 : (a0 == 3) = false := beq_eq_false_iff_ne.mpr c4
        have c4b1 : (a0 != 3) = true := bne_iff_ne.mpr c4
        by_cases c5 : a0 = 4
        · rw [if_pos c5] at H
          have c5b0 : (a0 == 4) = true := beq_iff_eq.mpr c5
          have c5b1 : (a0 != 4) = false := bne_eq_false_iff_eq.mpr c5
          clear c5
          obtain rfl := Option.some.inj H
          go_enter Tryd.func84, Tryd.ntmps84
          go_wp2
          go_ret
          exact ⟨by first | rfl | (simp; done) | (simp [*]; done), by repeat (first | exact Drawn0.refl _ | apply Drawn0.step)⟩
        · rw [if_neg c5] at H
          have c5b0 : (a0 == 4) = false := beq_eq_false_iff_ne.mpr c5
          have c5b1 : (a0 != 4) = true := bne_iff_ne.mpr c5
          by_cases c6 : a0 = 5
          · rw [if_pos c6] at H
            have c6b0 : (a0 == 5) = true := beq_iff_eq.mpr c6
            have c6b1 : (a0 != 5) = false := bne_eq_false_iff_eq.mpr c6
            clear c6
            obtain rfl := Option.some.inj H
            go_enter Tryd.func84, Tryd.ntmps84
            go_wp2
            go_ret
            exact ⟨by first | rfl | (simp; done) | (simp [*]; done), by repeat (first | exact Drawn0.refl _ | apply Drawn0.step)⟩
          · rw [if_neg c6] at H
            have c6b0 : (a0 == 5) = false := beq_eq_false_iff_ne.mpr c6
            have c6b1 : (a0 != 5) = true := bne_iff_ne.mpr c6
            by_cases c7 : a0 = 6
            · rw [if_pos c7] at H
              have c7b0 : (a0 == 6) = true := beq_iff_eq.mpr c7
              have c7b1 : (a0 != 6) = false := bne_eq_false_iff_eq.mpr c7
              clear c7
              obtain rfl := Option.some.inj H
              go_enter Tryd.func84, Tryd.ntmps84
              go_wp2
              go_ret
              exact ⟨by first | rfl | (simp; done) | (simp [*]; done), by repeat (first | exact Drawn0.refl _ | apply Drawn0.step)⟩
            · rw [if_neg c7] at H
              have c7b0 : (a0 == 6) = false := beq_eq_false_iff_ne.mpr c7
              have c7b1 : (a0 != 6) = true := bne_iff_ne.mpr c7
              by_cases c8 : a0 = 7
              · rw [if_pos c8] at H
                have c8b0 : (a0 == 7) = true := beq_iff_eq.mpr c8
                have c8b1 : (a0 != 7) = false := bne_eq_false_iff_eq.mpr c8
                clear c8
                obtain rfl := Option.some.inj H
                go_enter Tryd.func84, Tryd.ntmps84
                go_wp2
                go_ret
                exact ⟨by first | rfl | (simp; done) | (simp [*]; done), by repeat (first | exact Drawn0.refl _ | apply Drawn0.step)⟩
              · rw [if_neg c8] at H
                have c8b0 : (a0 == 7) = false := beq_eq_false_iff_ne.mpr c8
                have c8b1 : (a0 != 7) = true := bne_iff_ne.mpr c8
                by_cases c9 : a0 = 8
                · rw [if_pos c9] at H
                  have c9b0 : (a0 == 8) = true := beq_iff_eq.mpr c9
                  have c9b1 : (a0 != 8) = false := bne_eq_false_iff_eq.mpr c9
                  clear c9
                  obtain rfl := Option.some.inj H
                  go_enter Tryd.func84, Tryd.ntmps84
                  go_wp2
                  go_ret
                  exact ⟨by first | rfl | (simp; done) | (simp [*]; done), by repeat (first | exact Drawn0.refl _ | apply Drawn0.step)⟩
                · rw [if_neg c9] at H
                  have c9b0 : (a0 == 8) = false := beq_eq_false_iff_ne.mpr c9
                  have c9b1 : (a0 != 8) = true := bne_iff_ne.mpr c9
                  by_cases c10 : a0 = 9
                  · rw [if_pos c10] at H
                    have c10b0 : (a0 == 9) = true := beq_iff_eq.mpr c10
                    have c10b1 : (a0 != 9) = false := bne_eq_false_iff_eq.mpr c10
                    clear c10
                    obtain rfl := Option.some.inj H
                    go_enter Tryd.func84, Tryd.ntmps84
                    go_wp2
                    go_ret
                    exact ⟨by first | rfl | (simp; done) | (simp [*]; done), by repeat (first | exact Drawn0.refl _ | apply Drawn0.step)⟩
                  · rw [if_neg c10] at H
                    have c10b0 : (a0 == 9) = false := beq_eq_false_iff_ne.mpr c10
                    have c10b1 : (a0 != 9) = true := bne_iff_ne.mpr c10
                    by_cases c11 : a0 = 10
                    · rw [if_pos c11] at H
                      have c11b0 : (a0 == 10) = true := beq_iff_eq.mpr c11
                      have c11b1 : (a0 != 10) = false := bne_eq_false_iff_eq.mpr c11
                      clear c11
                      obtain rfl := Option.some.inj H
                      go_enter Tryd.func84, Tryd.ntmps84
                      go_wp2
                      go_ret
                      exact ⟨by first | rfl | (simp; done) | (simp [*]; done), by repeat (first | exact Drawn0.refl _ | apply Drawn0.step)⟩
                    · rw [if_neg c11] at H
                      have c11b0 : (a0 == 10) = false := beq_eq_false_iff_ne.mpr c11
                      have c11b1 : (a0 != 10) = true := bne_iff_ne.mpr c11
                      by_cases c12 : a0 = 11
                      · rw [if_pos c12] at H
                        have c12b0 : (a0 == 11) = true := beq_iff_eq.mpr c12
                        have c12b1 : (a0 != 11) = false := bne_eq_false_iff_eq.mpr c12
                        clear c12
                        obtain rfl := Option.some.inj H
                        go_enter Tryd.func84, Tryd.ntmps84
                        go_wp2
                        go_ret
                        exact ⟨by first | rfl | (simp; done) | (simp [*]; done), by repeat (first | exact Drawn0.refl _ | apply Drawn0.step)⟩
                      · rw [if_neg c12] at H
                        have c12b0 : (a0 == 11) = false := beq_eq_false_iff_ne.mpr c12
                        have c12b1 : (a0 != 11) = true := bne_iff_ne.mpr c12
                        by_cases c13 : a0 = 12
                        · rw [if_pos c13] at H
                          have c13b0 : (a0 == 12) = true := beq_iff_eq.mpr c13
                          have c13b1 : (a0 != 12) = false := bne_eq_false_iff_eq.mpr c13
                          clear c13
                          obtain rfl := Option.some.inj H
                          go_enter Tryd.func84, Tryd.ntmps84
                          go_wp2
                          go_ret
                          exact ⟨by first | rfl | (simp; done) | (simp [*]; done), by repeat (first | exact Drawn0.refl _ | apply Drawn0.step)⟩
                        · rw [if_neg c13] at H
                          have c13b0 : (a0 == 12) = false := beq_eq_false_iff_ne.mpr c13
                          have c13b1 : (a0 != 12) = true := bne_iff_ne.mpr c13
                          by_cases c14 : a0 = 13
                          · rw [if_pos c14] at H
                            have c14b0 : (a0 == 13) = true := beq_iff_eq.mpr c14
                            have c14b1 : (a0 != 13) = false := bne_eq_false_iff_eq.mpr c14
                            clear c14
                            obtain rfl := Option.some.inj H
                            go_enter Tryd.func84, Tryd.ntmps84
                            go_wp2
                            go_ret
                            exact ⟨by first | rfl | (simp; done) | (simp [*]; done), by repeat (first | exact Drawn0.refl _ | apply Drawn0.step)⟩
                          · rw [if_neg c14] at H
                            have c14b0 : (a0 == 13) = false := beq_eq_false_iff_ne.mpr c14
                            have c14b1 : (a0 != 13) = true := bne_iff_ne.mpr c14
                            by_cases c15 : a0 = 14
                            · rw [if_pos c15] at H
                              have c15b0 : (a0 == 14) = true := beq_iff_eq.mpr c15
                              have c15b1 : (a0 != 14) = false := bne_eq_false_iff_eq.mpr c15
                              clear c15
                              obtain rfl := Option.some.inj H
                              go_enter Tryd.func84, Tryd.ntmps84
                              go_wp2
                              go_ret
                              exact ⟨by first | rfl | (simp; done) | (simp [*]; done), by repeat (first | exact Drawn0.refl _ | apply Drawn0.step)⟩
                            · rw [if_neg c15] at H
                              have c15b0 : (a0 == 14) = false := beq_eq_false_iff_ne.mpr c15
                              have c15b1 : (a0 != 14) = true := bne_iff_ne.mpr c15
                              by_cases c16 : a0 = 15
                              · rw [if_pos c16] at H
                                have c16b0 : (a0 == 15) = true := beq_iff_eq.mpr c16
                                have c16b1 : (a0 != 15) = false := bne_eq_false_iff_eq.mpr c16
                                clear c16
                                obtain rfl := Option.some.inj H
                                go_enter Tryd.func84, Tryd.ntmps84
                                go_wp2
                                go_ret
                                exact ⟨by first | rfl | (simp; done) | (simp [*]; done), by repeat (first | exact Drawn0.refl _ | apply Drawn0.step)⟩
                              · rw [if_neg c16] at H
                                have c16b0 : (a0 == 15) = false := beq_eq_false_iff_ne.mpr c16
                                have c16b1 : (a0 != 15) = true := bne_iff_ne.mpr c16
                                by_cases c17 : a0 = 16
                                · rw [if_pos c17] at H
                                  have c17b0 : (a0 == 16) = true := beq_iff_eq.mpr c17
                                  have c17b1 : (a0 != 16) = false := bne_eq_false_iff_eq.mpr c17
                                  clear c17
                                  obtain rfl := Option.some.inj H
                                  go_enter Tryd.func84, Tryd.ntmps84
                                  go_wp2
                                  go_ret
                                  exact ⟨by first | rfl | (simp; done) | (simp [*]; done), by repeat (first | exact Drawn0.refl _ | apply Drawn0.step)⟩
                                · rw [if_neg c17] at H
                                  have c17b0 : (a0 == 16) = false := beq_eq_false_iff_ne.mpr c17
                                  have c17b1 : (a0 != 16) = true := bne_iff_ne.mpr c17
                                  by_cases c18 : a0 = 17
                                  · rw [if_pos c18] at H
                                    have c18b0 : (a0 == 17) = true := beq_iff_eq.mpr c18
                                    have c18b1 : (a0 != 17) = false := bne_eq_false_iff_eq.mpr c18
                                    clear c18
                                    obtain rfl := Option.some.inj H
                                    go_enter Tryd.func84, Tryd.ntmps84
                                    go_wp2
                                    go_ret
                                    exact ⟨by first | rfl | (simp; done) | (simp [*]; done), by repeat (first | exact Drawn0.refl _ | apply Drawn0.step)⟩
                                  · rw [if_neg c18] at H
                                    have c18b0 : (a0 == 17) = false := beq_eq_false_iff_ne.mpr c18
                                    have c18b1 : (a0 != 17) = true := bne_iff_ne.mpr c18
                                    replace H := Option.bind_eq_some_iff.mp H
                                    obtain ⟨t108, A190, H⟩ := H
                                    replace H : (some t108) = some r := H
                                    have A19 := Aside0.mk A190
                                    clear A190
                                    obtain rfl := Option.some.inj H
                                    go_enter Tryd.func84, Tryd.ntmps84
                                    go_wp2_with (first | ((with_reducible refine gate_callee (f := 101) rfl ?_); refine goesL_ (some 39) rfl rfl Tryd.func101 (by kernel_rfl) rfl #[.int .i64 a0] rfl (by (try simp only [List.map_toArray, List.map_cons, List.map_nil]); first | done | rfl | (simp only [List.length_drop, List.length_take]; rfl)) ?_; (with_reducible refine (api_Errno_more.calls a0 t108 _ A19.out).mono ?_); rintro e w' ⟨rfl, ⟨nd, rfl⟩⟩; refine ⟨_, rfl, ?_⟩))
                                    go_ret
                                    exact ⟨by first | rfl | (simp; done) | (simp [*]; done), by repeat (first | exact Drawn0.refl _ | apply Drawn0.step)⟩

/-! ### why_named: function 53 -/
def why_named.f (a0 : ByteArray) (a1 : Int) : Option (ByteArray) := if a1 < 1 then (some (⟨#[63]⟩ : ByteArray)) else (if a1 > 25 then (some (⟨#[63]⟩ : ByteArray)) else (if a0.size + 2 ≤ 9223372036854775807 then ((api_Errno_Error.f a1).bind fun t109 => (if (a0 ++ (⟨#[58, 32]⟩ : ByteArray)).size + t109.size ≤ 9223372036854775807 then (some ((a0 ++ (⟨#[58, 32]⟩ : ByteArray)) ++ t109)) else (none))) else (none)))
set_option maxHeartbeats 8000000 in
set_option maxRecDepth 100000 in
theorem why_named.calls (a0 : ByteArray) (a1 : Int) (r : ByteArray) (w : World) (h : why_named.f a0 a1 = some r) :
    Calls Tryd.prog 53 #[.string a0, .int .i64 a1] w fun e w' => e = .returned (.string r) ∧ Drawn0 w w' := by
  have H : (if a1 < 1 then (some (⟨#[63]⟩ : ByteArray)) else (if a1 > 25 then (some (⟨#[63]⟩ : ByteArray)) else (if a0.size + 2 ≤ 9223372036854775807 then ((api_Errno_Error.f a1).bind fun t109 => (if (a0 ++ (⟨#[58, 32]⟩ : ByteArray)).size + t109.size ≤ 9223372036854775807 then (some ((a0 ++ (⟨#[58, 32]⟩ : ByteArray)) ++ t109)) else (none))) else (none)))) = some r := h
  clear h
  by_cases c3 : a1 < 1
  · rw [if_pos c3] at H
    have c3b0 : decide (a1 < 1) = true := decide_eq_true c3
    clear c3
    obtain rfl := Option.some.inj H
    go_enter Tryd.func53, Tryd.ntmps53
    go_wp2
    go_ret
    exact ⟨by first | rfl | (simp; done) | (simp [*]; done), by repeat (first | exact Drawn0.refl _ | apply Drawn0.step)⟩
  · rw [if_neg c3] at H
    have c3b0 : decide (a1 < 1) = false := decide_eq_false c3
    clear c3
    by_cases c4 : a1 > 25
    · rw [if_pos c4] at H
      have c4b0 : decide (25 < a1) = true := decide_eq_true c4
      clear c4
      obtain rfl := Option.some.inj H
      go_enter Tryd.func53, Tryd.ntmps53
      go_wp2
      go_ret
      exact ⟨by first | rfl | (simp; done) | (simp [*]; done), by repeat (first | exact Drawn0.refl _ | apply Drawn0.step)⟩
    · rw [if_neg c4] at H
      have c4b0 : decide (25 < a1) = false := decide_eq_false c4
      clear c4
      by_cases c5 : a0.size + 2 ≤ 9223372036854775807
      · rw [if_pos c5] at H
        have c5b0 := eq_true c5
        have c5b1 : decide (a0.size + 2 ≤ 9223372036854775807) = true := decide_eq_true c5
        try have c5b2 : (9223372036854775807 < a0.size + 2) = False := eq_false (Nat.not_lt.2 c5)
        replace H := Option.bind_eq_some_iff.mp H
        obtain ⟨t109, A60, H⟩ := H
        replace H : (if (a0 ++ (⟨#[58, 32]⟩ : ByteArray)).size + t109.size ≤ 9223372036854775807 then (some ((a0 ++ (⟨#[58, 32]⟩ : ByteArray)) ++ t109)) else (none)) = some r := H
        have A6 := Aside0.mk A60
        clear A60
        by_cases c7 : (a0 ++ (⟨#[58, 32]⟩ : ByteArray)).size + t109.size ≤ 9223372036854775807
        · rw [if_pos c7] at H
          have c7b0 := eq_true c7
          have c7b1 : decide ((a0 ++ (⟨#[58, 32]⟩ : ByteArray)).size + t109.size ≤ 9223372036854775807) = true := decide_eq_true c7
          try have c7b2 : (9223372036854775807 < (a0 ++ (⟨#[58, 32]⟩ : ByteArray)).size + t109.size) = False := eq_false (Nat.not_lt.2 c7)
          have c7b3 : (9223372036854775807 < a0.size + 2 + t109.size) = False := eq_false (Nat.not_lt.2 (by have h_ := c7; rw [ByteArray.size_append] at h_; exact h_))
          obtain rfl := Option.some.inj H
          go_enter Tryd.func53, Tryd.ntmps53
          go_wp2_with (first | ((with_reducible refine gate_callee (f := 84) rfl ?_); refine goesL_ (some 14) rfl rfl Tryd.func84 (by kernel_rfl) rfl #[.int .i64 a1] rfl (by (try simp only [List.map_toArray, List.map_cons, List.map_nil]); first | done | rfl | (simp only [List.length_drop, List.length_take]; rfl)) ?_; (with_reducible refine (api_Errno_Error.calls a1 t109 _ A6.out).mono ?_); rintro e w' ⟨rfl, ⟨nd, rfl⟩⟩; refine ⟨_, rfl, ?_⟩))
          go_ret
          exact ⟨by first | rfl | (simp; done) | (simp [*]; done), by repeat (first | exact Drawn0.refl _ | apply Drawn0.step)⟩
        · rw [if_neg c7] at H
          exact absurd H (by simp)
      · rw [if_neg c5] at H
        exact absurd H (by simp)

/-! ### why_Title: function 25 -/
theorem why_Title.strings : ∀ i : Fin 53, (match why_titles.cells[i.val]? with | some (.string _) => true | _ => false) = true := by decide +kernel
def why_Title.at (i : Nat) : ByteArray := match why_titles.cells[i]? with | some (.string s) => s | _ => ⟨#[63]⟩
theorem why_Title.cell (i : Nat) (h : i < 53) : why_titles.cells[i]? = some (.string (why_Title.at i)) := by
  have := why_Title.strings ⟨i, h⟩
  unfold why_Title.at
  split at this
  · rename_i s e
    have e' : why_titles.cells[i]? = some (.string s) := e
    rw [e']
  · cases this
def why_Title.f (a0 : Int) : Option ByteArray := if a0 ≥ 200 then why_named.f ⟨#[102, 105, 108, 101]⟩ (wrap64 (a0 - 200)) else if a0 ≥ 100 then why_named.f ⟨#[115, 121, 110, 116, 97, 120]⟩ (wrap64 (a0 - 100)) else if a0 ≥ 1 then (if a0 < 53 then some (why_Title.at a0.toNat) else some ⟨#[63]⟩) else some ⟨#[63]⟩
set_option maxHeartbeats 8000000 in
set_option maxRecDepth 100000 in
theorem why_Title.calls (a0 : Int) (r : ByteArray) (w : World) (h : why_Title.f a0 = some r) :
    Calls Tryd.prog 25 #[.int .i64 a0] w fun e w' => e = .returned (.string r) ∧ Below w.heap.size w w' := by
  unfold why_Title.f at h
  by_cases c1 : a0 ≥ 200
  · rw [if_pos c1] at h
    have c1b : decide (a0 ≥ 200) = true := decide_eq_true c1
    have AS := Aside0.mk h
    clear h c1
    go_enter Tryd.func25, Tryd.ntmps25
    go_wp2_with (first | (go_at_call 52; (refine (why_titles.calls _).mono ?_); rintro e w2 ⟨rfl, hb2⟩; have B2 := Aside0.mk hb2; clear hb2) | ((with_reducible refine gate_dst (N := 3) rfl ?_); refine box_event ?hg (N := 3) ?hd (cs := Array.replicate 53 (.string ByteArray.empty)) (t := 87) ?hr ?_; (case hd => rfl); (case hg => rfl); (case hr => exact why_titles.alloc_run _); intro g eg w3 hx hb; have X3 := Aside0.mk hx; have B3 := Aside0.mk (B2.out.trans (hb.mono B2.out.size)); have GE := Aside0.mk (Nat.le_trans B2.out.size (Nat.le_of_eq eg.symm)); clear hx hb eg) | ((with_reducible refine gate_store (t := 87) (p := 3) rfl ?_); refine store_event (t := 87) (p := 3) (v := .tmp 4) (w1 := w3.setRow g why_titles.cells) ?hg ?ho ?hn ?hr ?_; (case ho => rfl); (case hg => rfl); (case hn => rfl); (case hr => exact why_titles.store_run w3 g _ (by rw [Array.size_replicate]) X3.out); intro w4 hw4; have X4 := Aside0.mk (show w4.heap[g]? = some (.cells why_titles.cells 87 (0, 0)) by rw [hw4]; exact setRow_heap w3 g _ _ _ _ X3.out); have B4 := Aside0.mk (show Below w.heap.size w w4 by rw [hw4]; exact why_titles.row_below _ B3.out GE.out); clear hw4) | (go_at_call 53; (refine (why_named.calls _ _ r _ AS.out).mono ?_); rintro e w5 ⟨rfl, ⟨nd, rfl⟩⟩))
    go_ret
    exact ⟨rfl, pw_below_drewN B4.out _⟩
  · rw [if_neg c1] at h
    have c1b : decide (a0 ≥ 200) = false := decide_eq_false c1
    by_cases c2 : a0 ≥ 100
    · rw [if_pos c2] at h
      have c2b : decide (a0 ≥ 100) = true := decide_eq_true c2
      have AS := Aside0.mk h
      clear h c1 c2
      go_enter Tryd.func25, Tryd.ntmps25
      go_wp2_with (first | (go_at_call 52; (refine (why_titles.calls _).mono ?_); rintro e w2 ⟨rfl, hb2⟩; have B2 := Aside0.mk hb2; clear hb2) | ((with_reducible refine gate_dst (N := 3) rfl ?_); refine box_event ?hg (N := 3) ?hd (cs := Array.replicate 53 (.string ByteArray.empty)) (t := 87) ?hr ?_; (case hd => rfl); (case hg => rfl); (case hr => exact why_titles.alloc_run _); intro g eg w3 hx hb; have X3 := Aside0.mk hx; have B3 := Aside0.mk (B2.out.trans (hb.mono B2.out.size)); have GE := Aside0.mk (Nat.le_trans B2.out.size (Nat.le_of_eq eg.symm)); clear hx hb eg) | ((with_reducible refine gate_store (t := 87) (p := 3) rfl ?_); refine store_event (t := 87) (p := 3) (v := .tmp 4) (w1 := w3.setRow g why_titles.cells) ?hg ?ho ?hn ?hr ?_; (case ho => rfl); (case hg => rfl); (case hn => rfl); (case hr => exact why_titles.store_run w3 g _ (by rw [Array.size_replicate]) X3.out); intro w4 hw4; have X4 := Aside0.mk (show w4.heap[g]? = some (.cells why_titles.cells 87 (0, 0)) by rw [hw4]; exact setRow_heap w3 g _ _ _ _ X3.out); have B4 := Aside0.mk (show Below w.heap.size w w4 by rw [hw4]; exact why_titles.row_below _ B3.out GE.out); clear hw4) | (go_at_call 53; (refine (why_named.calls _ _ r _ AS.out).mono ?_); rintro e w5 ⟨rfl, ⟨nd, rfl⟩⟩))
      go_ret
      exact ⟨rfl, pw_below_drewN B4.out _⟩
    · rw [if_neg c2] at h
      have c2b : decide (a0 ≥ 100) = false := decide_eq_false c2
      by_cases c3 : a0 ≥ 1
      · rw [if_pos c3] at h
        have c3b : decide (a0 ≥ 1) = true := decide_eq_true c3
        by_cases c4 : a0 < 53
        · rw [if_pos c4] at h
          obtain rfl := Option.some.inj h
          have c4b : decide (a0 < 53) = true := decide_eq_true c4
          have p0 : (0 ≤ a0) = True := eq_true (by omega)
          have p1 : (a0 < 53) = True := eq_true c4
          have HL := Aside0.mk (show a0.toNat < 53 by omega)
          have hu87 := Tryd.underlying87
          clear h c1 c2 c3 c4
          go_enter Tryd.func25, Tryd.ntmps25
          go_wp2_with (first | (go_at_call 52; (refine (why_titles.calls _).mono ?_); rintro e w2 ⟨rfl, hb2⟩; have B2 := Aside0.mk hb2; clear hb2) | ((with_reducible refine gate_dst (N := 3) rfl ?_); refine box_event ?hg (N := 3) ?hd (cs := Array.replicate 53 (.string ByteArray.empty)) (t := 87) ?hr ?_; (case hd => rfl); (case hg => rfl); (case hr => exact why_titles.alloc_run _); intro g eg w3 hx hb; have X3 := Aside0.mk hx; have B3 := Aside0.mk (B2.out.trans (hb.mono B2.out.size)); have GE := Aside0.mk (Nat.le_trans B2.out.size (Nat.le_of_eq eg.symm)); clear hx hb eg) | ((with_reducible refine gate_store (t := 87) (p := 3) rfl ?_); refine store_event (t := 87) (p := 3) (v := .tmp 4) (w1 := w3.setRow g why_titles.cells) ?hg ?ho ?hn ?hr ?_; (case ho => rfl); (case hg => rfl); (case hn => rfl); (case hr => exact why_titles.store_run w3 g _ (by rw [Array.size_replicate]) X3.out); intro w4 hw4; have X4 := Aside0.mk (show w4.heap[g]? = some (.cells why_titles.cells 87 (0, 0)) by rw [hw4]; exact setRow_heap w3 g _ _ _ _ X3.out); have B4 := Aside0.mk (show Below w.heap.size w w4 by rw [hw4]; exact why_titles.row_below _ B3.out GE.out); clear hw4; have q4 := (blk_cell X4.out a0.toNat).trans (why_Title.cell a0.toNat HL.out)))
          go_ret
          exact ⟨rfl, B4.out⟩
        · rw [if_neg c4] at h
          obtain rfl := Option.some.inj h
          have c4b : decide (a0 < 53) = false := decide_eq_false c4
          clear h c1 c2 c3 c4
          go_enter Tryd.func25, Tryd.ntmps25
          go_wp2_with (first | (go_at_call 52; (refine (why_titles.calls _).mono ?_); rintro e w2 ⟨rfl, hb2⟩; have B2 := Aside0.mk hb2; clear hb2) | ((with_reducible refine gate_dst (N := 3) rfl ?_); refine box_event ?hg (N := 3) ?hd (cs := Array.replicate 53 (.string ByteArray.empty)) (t := 87) ?hr ?_; (case hd => rfl); (case hg => rfl); (case hr => exact why_titles.alloc_run _); intro g eg w3 hx hb; have X3 := Aside0.mk hx; have B3 := Aside0.mk (B2.out.trans (hb.mono B2.out.size)); have GE := Aside0.mk (Nat.le_trans B2.out.size (Nat.le_of_eq eg.symm)); clear hx hb eg) | ((with_reducible refine gate_store (t := 87) (p := 3) rfl ?_); refine store_event (t := 87) (p := 3) (v := .tmp 4) (w1 := w3.setRow g why_titles.cells) ?hg ?ho ?hn ?hr ?_; (case ho => rfl); (case hg => rfl); (case hn => rfl); (case hr => exact why_titles.store_run w3 g _ (by rw [Array.size_replicate]) X3.out); intro w4 hw4; have X4 := Aside0.mk (show w4.heap[g]? = some (.cells why_titles.cells 87 (0, 0)) by rw [hw4]; exact setRow_heap w3 g _ _ _ _ X3.out); have B4 := Aside0.mk (show Below w.heap.size w w4 by rw [hw4]; exact why_titles.row_below _ B3.out GE.out); clear hw4))
          go_ret
          exact ⟨rfl, B4.out⟩
      · rw [if_neg c3] at h
        obtain rfl := Option.some.inj h
        have c3b : decide (a0 ≥ 1) = false := decide_eq_false c3
        clear h c1 c2 c3
        go_enter Tryd.func25, Tryd.ntmps25
        go_wp2_with (first | (go_at_call 52; (refine (why_titles.calls _).mono ?_); rintro e w2 ⟨rfl, hb2⟩; have B2 := Aside0.mk hb2; clear hb2) | ((with_reducible refine gate_dst (N := 3) rfl ?_); refine box_event ?hg (N := 3) ?hd (cs := Array.replicate 53 (.string ByteArray.empty)) (t := 87) ?hr ?_; (case hd => rfl); (case hg => rfl); (case hr => exact why_titles.alloc_run _); intro g eg w3 hx hb; have X3 := Aside0.mk hx; have B3 := Aside0.mk (B2.out.trans (hb.mono B2.out.size)); have GE := Aside0.mk (Nat.le_trans B2.out.size (Nat.le_of_eq eg.symm)); clear hx hb eg) | ((with_reducible refine gate_store (t := 87) (p := 3) rfl ?_); refine store_event (t := 87) (p := 3) (v := .tmp 4) (w1 := w3.setRow g why_titles.cells) ?hg ?ho ?hn ?hr ?_; (case ho => rfl); (case hg => rfl); (case hn => rfl); (case hr => exact why_titles.store_run w3 g _ (by rw [Array.size_replicate]) X3.out); intro w4 hw4; have X4 := Aside0.mk (show w4.heap[g]? = some (.cells why_titles.cells 87 (0, 0)) by rw [hw4]; exact setRow_heap w3 g _ _ _ _ X3.out); have B4 := Aside0.mk (show Below w.heap.size w w4 by rw [hw4]; exact why_titles.row_below _ B3.out GE.out); clear hw4))
        go_ret
        exact ⟨rfl, B4.out⟩

/-! ### cavilref33_nth: function 54 -/
def cavilref33_nth.l0 : Nat → ByteArray → Int → Int → Int → Option (ByteArray)
  | 0, _, _, _, _ => none
  | k + 1, x0, x1, x5, x6 => if x6 < (x0.size : Int) then (if 0 ≤ x6 then (if (bt x0 x6) = 47 then (if (wrap64 (x1 - 1)) = 0 then (if 0 ≤ x5 then (if x5 ≤ x6 then (if x6 ≤ (x0.size : Int) then (some (x0.extract (x5 : Int).toNat (x6 : Int).toNat)) else (none)) else (none)) else (none)) else (cavilref33_nth.l0 k x0 (wrap64 (x1 - 1)) (wrap64 (x6 + 1)) (wrap64 (x6 + 1)))) else (cavilref33_nth.l0 k x0 x1 x5 (wrap64 (x6 + 1)))) else (none)) else (some (⟨#[63]⟩ : ByteArray))
def cavilref33_nth.f (k : Nat) (a0 : ByteArray) (a1 : Int) : Option (ByteArray) := cavilref33_nth.l0 k a0 a1 0 0
theorem cavilref33_nth.mono_l : ∀ k, (∀ y0 y1 y2 y3, LeO (cavilref33_nth.l0 k y0 y1 y2 y3) (cavilref33_nth.l0 (k + 1) y0 y1 y2 y3))
  | 0 => fun _ _ _ _ r h => by simp [cavilref33_nth.l0] at h
  | k + 1 => by
    have ih0 := cavilref33_nth.mono_l k
    · intro y0 y1 y2 y3
      unfold cavilref33_nth.l0
      repeat' first
      | (with_reducible exact ih0 _ _ _ _)
      | (with_reducible exact LeO.refl _)
      | (with_reducible exact LeO.none _)
      | (with_reducible refine LeO.ite ?_ ?_)
      | (with_reducible refine LeO.bind ?_ (fun _ => ?_))
      | exact ih0 _ _ _ _
      | exact LeO.none _
      | refine LeO.ite ?_ ?_
      | refine LeO.bind ?_ (fun _ => ?_)
theorem cavilref33_nth.mono : ∀ a0 a1 k, LeO (cavilref33_nth.f k a0 a1) (cavilref33_nth.f (k + 1) a0 a1) := by
  intro a0 a1 k
  have ih0 := cavilref33_nth.mono_l k
  unfold cavilref33_nth.f
  repeat' first
      | (with_reducible exact ih0 _ _ _ _)
      | (with_reducible exact LeO.refl _)
      | (with_reducible exact LeO.none _)
      | (with_reducible refine LeO.ite ?_ ?_)
      | (with_reducible refine LeO.bind ?_ (fun _ => ?_))
      | exact ih0 _ _ _ _
      | exact LeO.none _
      | refine LeO.ite ?_ ?_
      | refine LeO.bind ?_ (fun _ => ?_)
set_option maxHeartbeats 8000000 in
set_option maxRecDepth 100000 in
theorem cavilref33_nth.calls (k : Nat) (a0 : ByteArray) (a1 : Int) (r : ByteArray) (w : World) (h : cavilref33_nth.f k a0 a1 = some r) :
    Calls Tryd.prog 54 #[.string a0, .int .i64 a1] w fun e w' => e = .returned (.string r) ∧ Drawn0 w w' := by
  have H : (cavilref33_nth.l0 k a0 a1 0 0) = some r := h
  clear h
  have H' := Aside0.mk H
  clear H
  go_enter Tryd.func54, Tryd.ntmps54
  go_wp2
  go_loopg [1, 5, 6] k (fun kq v1 v5 v6 w' => ∃ (x1_1 : Int) (x5_1 : Int) (x6_1 : Int), v1 = .int .i64 x1_1 ∧ v5 = .int .i64 x5_1 ∧ v6 = .int .i64 x6_1 ∧ Aside0 (cavilref33_nth.l0 kq a0 x1_1 x5_1 x6_1 = some r) ∧ Aside0 (kq ≤ k) ∧ Drawn0 w w')
  case atStart => exact ⟨(a1), (0), (0), (by first | rfl | (simp; done) | (simp [*]; done)), (by first | rfl | (simp; done) | (simp [*]; done)), (by first | rfl | (simp; done) | (simp [*]; done)), H', ⟨Nat.le_refl _⟩, by repeat (first | exact Drawn0.refl _ | apply Drawn0.step)⟩
  case round =>
    clear H'
    try clear p2
    obtain ⟨x1_1, x5_1, x6_1, rfl, rfl, rfl, HA, HK1, ⟨m1, rfl⟩⟩ := hrel
    cases gk with
    | zero => exact absurd HA.out (by simp [cavilref33_nth.l0])
    | succ k1 =>
      have H := HA.out
      clear HA
      simp only [cavilref33_nth.l0] at H
      by_cases c3 : x6_1 < (a0.size : Int)
      · rw [if_pos c3] at H
        have c3b0 : decide (x6_1 < (a0.size : Int)) = true := decide_eq_true c3
        clear c3
        by_cases c4 : 0 ≤ x6_1
        · rw [if_pos c4] at H
          have c4b0 : decide (0 ≤ x6_1) = true := decide_eq_true c4
          clear c4
          by_cases c6 : (bt a0 x6_1) = 47
          · rw [if_pos c6] at H
            have c6b0 : ((bt a0 x6_1) == 47) = true := beq_iff_eq.mpr c6
            have c6b1 : ((bt a0 x6_1) != 47) = false := bne_eq_false_iff_eq.mpr c6
            clear c6
            by_cases c7 : (wrap64 (x1_1 - 1)) = 0
            · rw [if_pos c7] at H
              have c7b0 : ((wrap64 (x1_1 - 1)) == 0) = true := beq_iff_eq.mpr c7
              have c7b1 : ((wrap64 (x1_1 - 1)) != 0) = false := bne_eq_false_iff_eq.mpr c7
              (try (have c7b2 : ((IntKind.i64.wrap (x1_1 - 1)) == 0) = true := by simp only [i64_w]; exact beq_iff_eq.mpr c7))
              (try (have c7b3 : ((IntKind.i64.wrap (x1_1 - 1)) != 0) = false := by simp only [i64_w]; exact bne_eq_false_iff_eq.mpr c7))
              clear c7
              by_cases c8 : 0 ≤ x5_1
              · rw [if_pos c8] at H
                have c8b0 := eq_true c8
                have c8b1 : decide (0 ≤ x5_1) = true := decide_eq_true c8
                clear c8
                by_cases c9 : x5_1 ≤ x6_1
                · rw [if_pos c9] at H
                  have c9b0 := eq_true c9
                  have c9b1 : decide (x5_1 ≤ x6_1) = true := decide_eq_true c9
                  clear c9
                  by_cases c10 : x6_1 ≤ (a0.size : Int)
                  · rw [if_pos c10] at H
                    have c10b0 := eq_true c10
                    have c10b1 : decide (x6_1 ≤ (a0.size : Int)) = true := decide_eq_true c10
                    clear c10
                    obtain rfl := Option.some.inj H
                    have p5 : 0 ≤ (x6_1 : Int) := of_decide_eq_true (by first | (with_reducible assumption) | assumption)
                    have q5 : x6_1 < (a0.size : Int) := of_decide_eq_true (by first | (with_reducible assumption) | assumption)
                    have hx5 := bt_at a0 x6_1
                    replace p5 := eq_true p5
                    replace q5 := eq_true q5
                    go_wp2
                    go_ret
                    exact ⟨by first | rfl | (simp; done) | (simp [*]; done), by repeat (first | exact Drawn0.refl _ | apply Drawn0.step)⟩
                  · rw [if_neg c10] at H
                    exact absurd H (by simp)
                · rw [if_neg c9] at H
                  exact absurd H (by simp)
              · rw [if_neg c8] at H
                exact absurd H (by simp)
            · rw [if_neg c7] at H
              have c7b0 : ((wrap64 (x1_1 - 1)) == 0) = false := beq_eq_false_iff_ne.mpr c7
              have c7b1 : ((wrap64 (x1_1 - 1)) != 0) = true := bne_iff_ne.mpr c7
              (try (have c7b2 : ((IntKind.i64.wrap (x1_1 - 1)) == 0) = false := by simp only [i64_w]; exact beq_eq_false_iff_ne.mpr c7))
              (try (have c7b3 : ((IntKind.i64.wrap (x1_1 - 1)) != 0) = true := by simp only [i64_w]; exact bne_iff_ne.mpr c7))
              have H' := Aside0.mk H
              clear H
              have p5 : 0 ≤ (x6_1 : Int) := of_decide_eq_true (by first | (with_reducible assumption) | assumption)
              have q5 : x6_1 < (a0.size : Int) := of_decide_eq_true (by first | (with_reducible assumption) | assumption)
              have hx5 := bt_at a0 x6_1
              replace p5 := eq_true p5
              replace q5 := eq_true q5
              go_wp2
              go_roundg k1
              case measure => have := HK1.out; omega
              case rel => exact ⟨(wrap64 (x1_1 - 1)), (wrap64 (x6_1 + 1)), (wrap64 (x6_1 + 1)), (by first | rfl | (simp; done) | (simp [*]; done)), (by first | rfl | (simp; done) | (simp [*]; done)), (by first | rfl | (simp; done) | (simp [*]; done)), H', ⟨by have := HK1.out; omega⟩, by repeat (first | exact Drawn0.refl _ | apply Drawn0.step)⟩
          · rw [if_neg c6] at H
            have c6b0 : ((bt a0 x6_1) == 47) = false := beq_eq_false_iff_ne.mpr c6
            have c6b1 : ((bt a0 x6_1) != 47) = true := bne_iff_ne.mpr c6
            have H' := Aside0.mk H
            clear H
            have p5 : 0 ≤ (x6_1 : Int) := of_decide_eq_true (by first | (with_reducible assumption) | assumption)
            have q5 : x6_1 < (a0.size : Int) := of_decide_eq_true (by first | (with_reducible assumption) | assumption)
            have hx5 := bt_at a0 x6_1
            replace p5 := eq_true p5
            replace q5 := eq_true q5
            go_wp2
            go_roundg k1
            case measure => have := HK1.out; omega
            case rel => exact ⟨(x1_1), (x5_1), (wrap64 (x6_1 + 1)), (by first | rfl | (simp; done) | (simp [*]; done)), (by first | rfl | (simp; done) | (simp [*]; done)), (by first | rfl | (simp; done) | (simp [*]; done)), H', ⟨by have := HK1.out; omega⟩, by repeat (first | exact Drawn0.refl _ | apply Drawn0.step)⟩
        · rw [if_neg c4] at H
          exact absurd H (by simp)
      · rw [if_neg c3] at H
        have c3b0 : decide (x6_1 < (a0.size : Int)) = false := decide_eq_false c3
        clear c3
        obtain rfl := Option.some.inj H
        go_wp2
        go_ret
        exact ⟨by first | rfl | (simp; done) | (simp [*]; done), by repeat (first | exact Drawn0.refl _ | apply Drawn0.step)⟩

end Go.Proofs.YtnpgadfoohjlnabDoor.QK
