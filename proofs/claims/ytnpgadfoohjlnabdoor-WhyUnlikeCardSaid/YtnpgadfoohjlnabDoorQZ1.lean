/- Where a Lean function of this text answers, the Go function of its name comes to that answer: no other condition. Written by a program of this session out of the translation; Lean checks it. -/
import Derived.Test.YtnpgadfoohjlnabDoorQZ0
namespace Go.Proofs.YtnpgadfoohjlnabDoor.QZ
open Go.RowKit Go.Proofs.YtnpgadfoohjlnabDoorW.PrintWords Go.Proofs.YtnpgadfoohjlnabDoorW.PrintLast Go.Proofs.YtnpgadfoohjlnabDoorW.PrintMore Go.Proofs.YtnpgadfoohjlnabDoorW.PrintX
attribute [local go_sem] max2_int min2_int max_two min_two max_three min_three max_four min_four   -- for this text's walks alone
set_option linter.unusedVariables false
set_option linter.unusedSimpArgs false

/-! ### why_titles: function 52 -/
/-- The titles, by their codes, as cells. -/
def why_titles.cells : Array Value := #[.string ⟨#[]⟩, .string ⟨#[100, 101, 99, 108, 97, 114, 101, 100, 32, 97, 103, 97, 105, 110]⟩, .string ⟨#[117, 110, 100, 101, 102, 105, 110, 101, 100]⟩, .string ⟨#[110, 111, 116, 32, 97, 32, 116, 121, 112, 101]⟩, .string ⟨#[110, 111, 116, 32, 97, 32, 118, 97, 108, 117, 101]⟩, .string ⟨#[110, 111, 32, 115, 117, 99, 104, 32, 112, 97, 99, 107, 97, 103, 101]⟩, .string ⟨#[112, 97, 99, 107, 97, 103, 101, 115, 32, 98, 114, 105, 110, 103, 32, 105, 110, 32, 111, 110, 101, 32, 97, 110, 111, 116, 104, 101, 114]⟩, .string ⟨#[98, 114, 111, 117, 103, 104, 116, 32, 105, 110, 32, 97, 110, 100, 32, 110, 111, 116, 32, 117, 115, 101, 100]⟩, .string ⟨#[100, 101, 99, 108, 97, 114, 101, 100, 32, 97, 110, 100, 32, 110, 111, 116, 32, 117, 115, 101, 100]⟩, .string ⟨#[108, 97, 98, 101, 108, 32, 110, 111, 116, 32, 117, 115, 101, 100]⟩, .string ⟨#[106, 117, 109, 112, 32, 116, 111, 32, 110, 111, 119, 104, 101, 114, 101]⟩, .string ⟨#[108, 97, 98, 101, 108, 32, 100, 101, 99, 108, 97, 114, 101, 100, 32, 97, 103, 97, 105, 110]⟩, .string ⟨#[109, 105, 115, 115, 105, 110, 103, 32, 114, 101, 116, 117, 114, 110]⟩, .string ⟨#[110, 111, 116, 32, 97, 32, 99, 111, 110, 115, 116, 97, 110, 116]⟩, .string ⟨#[100, 111, 101, 115, 32, 110, 111, 116, 32, 102, 105, 116]⟩, .string ⟨#[100, 105, 118, 105, 115, 105, 111, 110, 32, 98, 121, 32, 122, 101, 114, 111]⟩, .string ⟨#[109, 105, 115, 109, 97, 116, 99, 104, 101, 100, 32, 116, 121, 112, 101, 115]⟩, .string ⟨#[111, 112, 101, 114, 97, 116, 111, 114, 32, 100, 111, 101, 115, 32, 110, 111, 116, 32, 103, 111, 32, 119, 105, 116, 104, 32, 105, 116]⟩, .string ⟨#[110, 111, 116, 32, 97, 32, 99, 111, 110, 100, 105, 116, 105, 111, 110]⟩, .string ⟨#[99, 97, 110, 110, 111, 116, 32, 98, 101, 32, 97, 115, 115, 105, 103, 110, 101, 100]⟩, .string ⟨#[119, 114, 111, 110, 103, 32, 110, 117, 109, 98, 101, 114, 32, 111, 102, 32, 118, 97, 108, 117, 101, 115]⟩, .string ⟨#[99, 97, 110, 110, 111, 116, 32, 98, 101, 32, 97, 115, 115, 105, 103, 110, 101, 100, 32, 116, 111]⟩, .string ⟨#[110, 111, 32, 110, 101, 119, 32, 118, 97, 114, 105, 97, 98, 108, 101, 115]⟩, .string ⟨#[99, 97, 110, 110, 111, 116, 32, 98, 101, 32, 99, 97, 108, 108, 101, 100]⟩, .string ⟨#[119, 114, 111, 110, 103, 32, 110, 117, 109, 98, 101, 114, 32, 111, 102, 32, 97, 114, 103, 117, 109, 101, 110, 116, 115]⟩, .string ⟨#[110, 111, 32, 118, 97, 108, 117, 101]⟩, .string ⟨#[118, 97, 108, 117, 101, 32, 110, 111, 116, 32, 117, 115, 101, 100]⟩, .string ⟨#[110, 111, 32, 115, 117, 99, 104, 32, 102, 105, 101, 108, 100, 32, 111, 114, 32, 109, 101, 116, 104, 111, 100]⟩, .string ⟨#[109, 111, 114, 101, 32, 116, 104, 97, 110, 32, 111, 110, 101, 32, 115, 117, 99, 104, 32, 102, 105, 101, 108, 100, 32, 111, 114, 32, 109, 101, 116, 104, 111, 100]⟩, .string ⟨#[99, 97, 110, 110, 111, 116, 32, 98, 101, 32, 105, 110, 100, 101, 120, 101, 100]⟩, .string ⟨#[111, 117, 116, 32, 111, 102, 32, 114, 97, 110, 103, 101]⟩, .string ⟨#[99, 97, 110, 110, 111, 116, 32, 98, 101, 32, 97, 115, 115, 101, 114, 116, 101, 100]⟩, .string ⟨#[109, 105, 115, 115, 105, 110, 103, 32, 109, 101, 116, 104, 111, 100]⟩, .string ⟨#[119, 114, 111, 110, 103, 32, 108, 105, 116, 101, 114, 97, 108]⟩, .string ⟨#[116, 104, 101, 114, 101, 32, 97, 108, 114, 101, 97, 100, 121]⟩, .string ⟨#[119, 114, 111, 110, 103, 32, 117, 115, 101, 32, 111, 102, 32, 97, 32, 99, 104, 97, 110, 110, 101, 108]⟩, .string ⟨#[99, 97, 110, 110, 111, 116, 32, 98, 101, 32, 114, 97, 110, 103, 101, 100, 32, 111, 118, 101, 114]⟩, .string ⟨#[110, 111, 116, 32, 97, 32, 99, 97, 108, 108]⟩, .string ⟨#[119, 114, 111, 110, 103, 32, 117, 115, 101, 32, 111, 102, 32, 119, 104, 97, 116, 32, 105, 115, 32, 98, 117, 105, 108, 116, 32, 105, 110]⟩, .string ⟨#[97, 114, 103, 117, 109, 101, 110, 116, 115, 32, 100, 111, 32, 110, 111, 116, 32, 103, 111, 32, 116, 111, 103, 101, 116, 104, 101, 114]⟩, .string ⟨#[116, 121, 112, 101, 32, 97, 114, 103, 117, 109, 101, 110, 116, 32, 110, 111, 116, 32, 107, 110, 111, 119, 110]⟩, .string ⟨#[119, 114, 111, 110, 103, 32, 116, 121, 112, 101, 32, 97, 114, 103, 117, 109, 101, 110, 116, 115]⟩, .string ⟨#[100, 111, 101, 115, 32, 110, 111, 116, 32, 103, 111, 32, 119, 105, 116, 104, 32, 105, 116, 115, 32, 98, 111, 117, 110, 100]⟩, .string ⟨#[116, 121, 112, 101, 32, 119, 105, 116, 104, 105, 110, 32, 105, 116, 115, 101, 108, 102]⟩, .string ⟨#[116, 121, 112, 101, 32, 103, 114, 111, 119, 115, 32, 119, 105, 116, 104, 111, 117, 116, 32, 101, 110, 100]⟩, .string ⟨#[104, 97, 110, 103, 115, 32, 111, 110, 32, 105, 116, 115, 101, 108, 102]⟩, .string ⟨#[99, 97, 110, 110, 111, 116, 32, 104, 97, 118, 101, 32, 109, 101, 116, 104, 111, 100, 115]⟩, .string ⟨#[102, 105, 101, 108, 100, 32, 111, 114, 32, 109, 101, 116, 104, 111, 100, 32, 116, 104, 101, 114, 101, 32, 97, 108, 114, 101, 97, 100, 121]⟩, .string ⟨#[99, 97, 110, 110, 111, 116, 32, 98, 101, 32, 99, 111, 110, 118, 101, 114, 116, 101, 100]⟩, .string ⟨#[119, 114, 111, 110, 103, 32, 99, 111, 110, 115, 116, 114, 97, 105, 110, 116]⟩, .string ⟨#[104, 97, 115, 32, 110, 111, 32, 97, 100, 100, 114, 101, 115, 115]⟩, .string ⟨#[110, 111, 116, 32, 116, 111, 108, 100, 32, 116, 111, 32, 111, 116, 104, 101, 114, 32, 112, 97, 99, 107, 97, 103, 101, 115]⟩, .string ⟨#[119, 114, 111, 110, 103, 32, 112, 97, 114, 97, 109, 101, 116, 101, 114, 115]⟩]
theorem why_titles.size : why_titles.cells.size = 53 := rfl
theorem why_titles.one : why_titles.cells.all (·.oneCell') = true := by decide +kernel
theorem why_titles.info : (Tryd.prog.info? 87).map (fun i => (i.zero, i.size)) = some (some (.agg (Array.replicate 53 (.string ByteArray.empty))), 53) := by kernel_rfl
theorem why_titles.sized : (Tryd.prog.info? 87).map (·.size) = some 53 := (zero_of_info why_titles.info).2
theorem why_titles.row_block (w : World) (g k : Nat) (cs : Array Value) (h : k ≠ g) : (w.setRow g cs).heap[k]? = w.heap[k]? := by
  unfold World.setRow
  show (w.heap.modify g _)[k]? = _
  rw [Array.getElem?_modify, if_neg (fun e => h e.symm)]
theorem why_titles.row_below {b g : Nat} {w0 w : World} (cs : Array Value) (h : Below b w0 w) (hg : b ≤ g) : Below b w0 (w.setRow g cs) :=
  ⟨h.os, h.tape, h.output, by have := h.size; simpa [World.setRow] using this, fun i hi => (why_titles.row_block w g i cs (by omega)).trans (h.block i hi)⟩
theorem why_titles.alloc_run (w : World) : (do let r ← Instr.alloc 87 true (.tuple #[]); pure (Next.value r) : Sem Next).run Tryd.prog w = .ok (.value (.pointer (some ⟨w.heap.size, 0, none⟩))) (w.alloc (.cells (Array.replicate 53 (.string ByteArray.empty)) 87 (0, 0))) := by
  have hz := (zero_of_info why_titles.info).1 w
  simp [Instr.alloc, hz, Result.andThen, newVar, newRow, Value.cells]
theorem why_titles.store_run (w : World) (g : Nat) (old : Array Value) (ho : old.size = 53) (hx : w.heap[g]? = some (.cells old 87 (0, 0))) : (do Instr.storeAt 87 (.pointer (some ⟨g, 0, none⟩)) (.agg why_titles.cells); pure Next.skip : Sem Next).run Tryd.prog w = .ok .skip (w.setRow g why_titles.cells) := by
  have := run_storeVar_row (P := Tryd.prog) w g 87 87 old why_titles.cells hx (by rw [why_titles.size]; exact why_titles.sized) (by rw [ho, why_titles.size]) why_titles.one
  simp only [Instr.storeAt, Instr.sureAddr, Sem.run_bind, Sem.run_pure, Result.andThen, this]
set_option maxHeartbeats 4000000 in
set_option maxRecDepth 100000 in
theorem why_titles.calls (w : World) : Calls Tryd.prog 52 #[] w fun e w' => e = .returned (.agg why_titles.cells) ∧ Below w.heap.size w w' := by
  go_enter Tryd.func52, Tryd.ntmps52
  go_wp2_with (first
    | ((with_reducible refine gate_dst (N := 0) rfl ?_); refine box_event ?hg (N := 0) ?hd (cs := Array.replicate 53 (.string ByteArray.empty)) (t := 87) ?hr ?_; (case hd => rfl); (case hg => rfl); (case hr => exact why_titles.alloc_run _); intro g eg w2 hx hb; have X2 := Aside0.mk hx; have B2 := Aside0.mk hb; have GE := Aside0.mk (Nat.le_of_eq eg.symm); clear hx hb eg)
    | ((with_reducible refine gate_store (t := 87) (p := 0) rfl ?_); refine store_event (t := 87) (p := 0) (v := .tmp 1) (w1 := w2.setRow g why_titles.cells) ?hg ?ho ?hn ?hr ?_; (case ho => rfl); (case hg => rfl); (case hn => rfl); (case hr => exact why_titles.store_run w2 g _ (by rw [Array.size_replicate]) X2.out); intro w3 hw3; have X3 := Aside0.mk (show w3.heap[g]? = some (.cells why_titles.cells 87 (0, 0)) by rw [hw3]; exact setRow_heap w2 g _ _ _ _ X2.out); have B3 := Aside0.mk (show Below w.heap.size w w3 by rw [hw3]; exact why_titles.row_below _ B2.out GE.out); clear hw3))
  refine bodyPost_ret (results_cell_row rfl _ _ g 87 why_titles.cells (0, 0) _ rfl X3.out Tryd.underlying87 rfl (by rw [why_titles.size]; exact why_titles.sized)) rfl ?_
  exact ⟨rfl, B3.out⟩

/-! ### api_Errno_more: function 101 -/
def api_Errno_more.f (a0 : Int) : Option (ByteArray) := if a0 = 18 then (some (⟨#[119, 114, 111, 110, 103, 32, 116, 121, 112, 101]⟩ : ByteArray)) else (if a0 = 19 then (some (⟨#[109, 105, 115, 115, 105, 110, 103, 32, 109, 101, 116, 104, 111, 100]⟩ : ByteArray)) else (if a0 = 20 then (some (⟨#[109, 101, 116, 104, 111, 100, 32, 111, 102, 32, 116, 104, 101, 32, 112, 111, 105, 110, 116, 101, 114]⟩ : ByteArray)) else (if a0 = 21 then (some (⟨#[97, 109, 98, 105, 103, 117, 111, 117, 115]⟩ : ByteArray)) else (if a0 = 22 then (some (⟨#[110, 111, 116, 32, 105, 110, 32, 116, 104, 101, 32, 99, 111, 110, 115, 116, 114, 97, 105, 110, 116]⟩ : ByteArray)) else (if a0 = 23 then (some (⟨#[99, 97, 110, 110, 111, 116, 32, 105, 110, 102, 101, 114]⟩ : ByteArray)) else (if a0 = 24 then (some (⟨#[99, 97, 110, 110, 111, 116, 32, 98, 101, 32, 111, 110, 101]⟩ : ByteArray)) else (if a0 = 25 then (some (⟨#[99, 121, 99, 108, 101]⟩ : ByteArray)) else (some (⟨#[63]⟩ : ByteArray)))))))))
set_option maxHeartbeats 8000000 in
set_option maxRecDepth 100000 in
theorem api_Errno_more.calls (a0 : Int) (r : ByteArray) (w : World) (h : api_Errno_more.f a0 = some r) :
    Calls Tryd.prog 101 #[.int .i64 a0] w fun e w' => e = .returned (.string r) ∧ Drawn0 w w' := by
  have H : (if a0 = 18 then (some (⟨#[119, 114, 111, 110, 103, 32, 116, 121, 112, 101]⟩ : ByteArray)) else (if a0 = 19 then (some (⟨#[109, 105, 115, 115, 105, 110, 103, 32, 109, 101, 116, 104, 111, 100]⟩ : ByteArray)) else (if a0 = 20 then (some (⟨#[109, 101, 116, 104, 111, 100, 32, 111, 102, 32, 116, 104, 101, 32, 112, 111, 105, 110, 116, 101, 114]⟩ : ByteArray)) else (if a0 = 21 then (some (⟨#[97, 109, 98, 105, 103, 117, 111, 117, 115]⟩ : ByteArray)) else (if a0 = 22 then (some (⟨#[110, 111, 116, 32, 105, 110, 32, 116, 104, 101, 32, 99, 111, 110, 115, 116, 114, 97, 105, 110, 116]⟩ : ByteArray)) else (if a0 = 23 then (some (⟨#[99, 97, 110, 110, 111, 116, 32, 105, 110, 102, 101, 114]⟩ : ByteArray)) else (if a0 = 24 then (some (⟨#[99, 97, 110, 110, 111, 116, 32, 98, 101, 32, 111, 110, 101]⟩ : ByteArray)) else (if a0 = 25 then (some (⟨#[99, 121, 99, 108, 101]⟩ : ByteArray)) else (some (⟨#[63]⟩ : ByteArray)))))))))) = some r := h
  clear h
  by_cases c2 : a0 = 18
  · rw [if_pos c2] at H
    have c2b0 : (a0 == 18) = true := beq_iff_eq.mpr c2
    have c2b1 : (a0 != 18) = false := bne_eq_false_iff_eq.mpr c2
    clear c2
    obtain rfl := Option.some.inj H
    go_enter Tryd.func101, Tryd.ntmps101
    go_wp2
    go_ret
    exact ⟨by first | rfl | (simp; done) | (simp [*]; done), by repeat (first | exact Drawn0.refl _ | apply Drawn0.step)⟩
  · rw [if_neg c2] at H
    have c2b0 : (a0 == 18) = false := beq_eq_false_iff_ne.mpr c2
    have c2b1 : (a0 != 18) = true := bne_iff_ne.mpr c2
    by_cases c3 : a0 = 19
    · rw [if_pos c3] at H
      have c3b0 : (a0 == 19) = true := beq_iff_eq.mpr c3
      have c3b1 : (a0 != 19) = false := bne_eq_false_iff_eq.mpr c3
      clear c3
      obtain rfl := Option.some.inj H
      go_enter Tryd.func101, Tryd.ntmps101
      go_wp2
      go_ret
      exact ⟨by first | rfl | (simp; done) | (simp [*]; done), by repeat (first | exact Drawn0.refl _ | apply Drawn0.step)⟩
    · rw [if_neg c3] at H
      have c3b0 : (a0 == 19) = false := beq_eq_false_iff_ne.mpr c3
      have c3b1 : (a0 != 19) = true := bne_iff_ne.mpr c3
      by_cases c4 : a0 = 20
      · rw [if_pos c4] at H
        have c4b0 : (a0 == 20) = true := beq_iff_eq.mpr c4
        have c4b1 : (a0 != 20) = false := bne_eq_false_iff_eq.mpr c4
        clear c4
        obtain rfl := Option.some.inj H
        go_enter Tryd.func101, Tryd.ntmps101
        go_wp2
        go_ret
        exact ⟨by first | rfl | (simp; done) | (simp [*]; done), by repeat (first | exact Drawn0.refl _ | apply Drawn0.step)⟩
      · rw [if_neg c4] at H
        have c4b0 : (a0 == 20) = false := beq_eq_false_iff_ne.mpr c4
        have c4b1 : (a0 != 20) = true := bne_iff_ne.mpr c4
        by_cases c5 : a0 = 21
        · rw [if_pos c5] at H
          have c5b0 : (a0 == 21) = true := beq_iff_eq.mpr c5
          have c5b1 : (a0 != 21) = false := bne_eq_false_iff_eq.mpr c5
          clear c5
          obtain rfl := Option.some.inj H
          go_enter Tryd.func101, Tryd.ntmps101
          go_wp2
          go_ret
          exact ⟨by first | rfl | (simp; done) | (simp [*]; done), by repeat (first | exact Drawn0.refl _ | apply Drawn0.step)⟩
        · rw [if_neg c5] at H
          have c5b0 : (a0 == 21) = false := beq_eq_false_iff_ne.mpr c5
          have c5b1 : (a0 != 21) = true := bne_iff_ne.mpr c5
          by_cases c6 : a0 = 22
          · rw [if_pos c6] at H
            have c6b0 : (a0 == 22) = true := beq_iff_eq.mpr c6
            have c6b1 : (a0 != 22) = false := bne_eq_false_iff_eq.mpr c6
            clear c6
            obtain rfl := Option.some.inj H
            go_enter Tryd.func101, Tryd.ntmps101
            go_wp2
            go_ret
            exact ⟨by first | rfl | (simp; done) | (simp [*]; done), by repeat (first | exact Drawn0.refl _ | apply Drawn0.step)⟩
          · rw [if_neg c6] at H
            have c6b0 : (a0 == 22) = false := beq_eq_false_iff_ne.mpr c6
            have c6b1 : (a0 != 22) = true := bne_iff_ne.mpr c6
            by_cases c7 : a0 = 23
            · rw [if_pos c7] at H
              have c7b0 : (a0 == 23) = true := beq_iff_eq.mpr c7
              have c7b1 : (a0 != 23) = false := bne_eq_false_iff_eq.mpr c7
              clear c7
              obtain rfl := Option.some.inj H
              go_enter Tryd.func101, Tryd.ntmps101
              go_wp2
              go_ret
              exact ⟨by first | rfl | (simp; done) | (simp [*]; done), by repeat (first | exact Drawn0.refl _ | apply Drawn0.step)⟩
            · rw [if_neg c7] at H
              have c7b0 : (a0 == 23) = false := beq_eq_false_iff_ne.mpr c7
              have c7b1 : (a0 != 23) = true := bne_iff_ne.mpr c7
              by_cases c8 : a0 = 24
              · rw [if_pos c8] at H
                have c8b0 : (a0 == 24) = true := beq_iff_eq.mpr c8
                have c8b1 : (a0 != 24) = false := bne_eq_false_iff_eq.mpr c8
                clear c8
                obtain rfl := Option.some.inj H
                go_enter Tryd.func101, Tryd.ntmps101
                go_wp2
                go_ret
                exact ⟨by first | rfl | (simp; done) | (simp [*]; done), by repeat (first | exact Drawn0.refl _ | apply Drawn0.step)⟩
              · rw [if_neg c8] at H
                have c8b0 : (a0 == 24) = false := beq_eq_false_iff_ne.mpr c8
                have c8b1 : (a0 != 24) = true := bne_iff_ne.mpr c8
                by_cases c9 : a0 = 25
                · rw [if_pos c9] at H
                  have c9b0 : (a0 == 25) = true := beq_iff_eq.mpr c9
                  have c9b1 : (a0 != 25) = false := bne_eq_false_iff_eq.mpr c9
                  clear c9
                  obtain rfl := Option.some.inj H
                  go_enter Tryd.func101, Tryd.ntmps101
                  go_wp2
                  go_ret
                  exact ⟨by first | rfl | (simp; done) | (simp [*]; done), by repeat (first | exact Drawn0.refl _ | apply Drawn0.step)⟩
                · rw [if_neg c9] at H
                  have c9b0 : (a0 == 25) = false := beq_eq_false_iff_ne.mpr c9
                  have c9b1 : (a0 != 25) = true := bne_iff_ne.mpr c9
                  obtain rfl := Option.some.inj H
                  go_enter Tryd.func101, Tryd.ntmps101
                  go_wp2
                  go_ret
                  exact ⟨by first | rfl | (simp; done) | (simp [*]; done), by repeat (first | exact Drawn0.refl _ | apply Drawn0.step)⟩

/-! ### api_Errno_Error: function 84 -/
def api_Errno_Error.f (a0 : Int) : Option (ByteArray) := if a0 = 1 then (some (⟨#[97, 114, 103, 117, 109, 101, 110, 116]⟩ : ByteArray)) else (if a0 = 2 then (some (⟨#[116, 111, 111, 32, 108, 111, 110, 103]⟩ : ByteArray)) else (if a0 = 3 then (some (⟨#[110, 111, 116, 32, 85, 84, 70, 45, 56]⟩ : ByteArray)) else (if a0 = 4 then (some (⟨#[111, 117, 116, 32, 111, 102, 32, 114, 97, 110, 103, 101]⟩ : ByteArray)) else (if a0 = 5 then (some (⟨#[111, 117, 116, 32, 111, 102, 32, 111, 114, 100, 101, 114]⟩ : ByteArray)) else (if a0 = 6 then (some (⟨#[116, 104, 101, 114, 101, 32, 97, 108, 114, 101, 97, 100, 121]⟩ : ByteArray)) else (if a0 = 7 then (some (⟨#[110, 111, 116, 32, 116, 104, 101, 114, 101]⟩ : ByteArray)) else (if a0 = 8 then (some (⟨#[109, 97, 108, 102, 111, 114, 109, 101, 100]⟩ : ByteArray)) else (if a0 = 9 then (some (⟨#[111, 118, 101, 114, 102, 108, 111, 119]⟩ : ByteArray)) else (if a0 = 10 then (some (⟨#[100, 105, 118, 105, 115, 105, 111, 110, 32, 98, 121, 32, 122, 101, 114, 111]⟩ : ByteArray)) else (if a0 = 11 then (some (⟨#[119, 114, 111, 110, 103, 32, 107, 105, 110, 100]⟩ : ByteArray)) else (if a0 = 12 then (some (⟨#[101, 110, 100, 115, 32, 116, 111, 111, 32, 115, 111, 111, 110]⟩ : ByteArray)) else (if a0 = 13 then (some (⟨#[119, 114, 111, 110, 103, 32, 100, 105, 103, 105, 116]⟩ : ByteArray)) else (if a0 = 14 then (some (⟨#[119, 114, 111, 110, 103, 32, 101, 115, 99, 97, 112, 101]⟩ : ByteArray)) else (if a0 = 15 then (some (⟨#[110, 111, 32, 116, 111, 107, 101, 110]⟩ : ByteArray)) else (if a0 = 16 then (some (⟨#[115, 121, 110, 116, 97, 120]⟩ : ByteArray)) else (if a0 = 17 then (some (⟨#[116, 111, 111, 32, 100, 101, 101, 112]⟩ : ByteArray)) else ((api_Errno_more.f a0).bind fun t101 => (some t101))))))))))))))))))
set_option maxHeartbeats 8000000 in
set_option maxRecDepth 100000 in
theorem api_Errno_Error.calls (a0 : Int) (r : ByteArray) (w : World) (h : api_Errno_Error.f a0 = some r) :
    Calls Tryd.prog 84 #[.int .i64 a0] w fun e w' => e = .returned (.string r) ∧ Drawn0 w w' := by
  have H : (if a0 = 1 then (some (⟨#[97, 114, 103, 117, 109, 101, 110, 116]⟩ : ByteArray)) else (if a0 = 2 then (some (⟨#[116, 111, 111, 32, 108, 111, 110, 103]⟩ : ByteArray)) else (if a0 = 3 then (some (⟨#[110, 111, 116, 32, 85, 84, 70, 45, 56]⟩ : ByteArray)) else (if a0 = 4 then (some (⟨#[111, 117, 116, 32, 111, 102, 32, 114, 97, 110, 103, 101]⟩ : ByteArray)) else (if a0 = 5 then (some (⟨#[111, 117, 116, 32, 111, 102, 32, 111, 114, 100, 101, 114]⟩ : ByteArray)) else (if a0 = 6 then (some (⟨#[116, 104, 101, 114, 101, 32, 97, 108, 114, 101, 97, 100, 121]⟩ : ByteArray)) else (if a0 = 7 then (some (⟨#[110, 111, 116, 32, 116, 104, 101, 114, 101]⟩ : ByteArray)) else (if a0 = 8 then (some (⟨#[109, 97, 108, 102, 111, 114, 109, 101, 100]⟩ : ByteArray)) else (if a0 = 9 then (some (⟨#[111, 118, 101, 114, 102, 108, 111, 119]⟩ : ByteArray)) else (if a0 = 10 then (some (⟨#[100, 105, 118, 105, 115, 105, 111, 110, 32, 98, 121, 32, 122, 101, 114, 111]⟩ : ByteArray)) else (if a0 = 11 then (some (⟨#[119, 114, 111, 110, 103, 32, 107, 105, 110, 100]⟩ : ByteArray)) else (if a0 = 12 then (some (⟨#[101, 110, 100, 115, 32, 116, 111, 111, 32, 115, 111, 111, 110]⟩ : ByteArray)) else (if a0 = 13 then (some (⟨#[119, 114, 111, 110, 103, 32, 100, 105, 103, 105, 116]⟩ : ByteArray)) else (if a0 = 14 then (some (⟨#[119, 114, 111, 110, 103, 32, 101, 115, 99, 97, 112, 101]⟩ : ByteArray)) else (if a0 = 15 then (some (⟨#[110, 111, 32, 116, 111, 107, 101, 110]⟩ : ByteArray)) else (if a0 = 16 then (some (⟨#[115, 121, 110, 116, 97, 120]⟩ : ByteArray)) else (if a0 = 17 then (some (⟨#[116, 111, 111, 32, 100, 101, 101, 112]⟩ : ByteArray)) else ((api_Errno_more.f a0).bind fun t101 => (some t101))))))))))))))))))) = some r := h
  clear h
  by_cases c2 : a0 = 1
  · rw [if_pos c2] at H
    have c2b0 : (a0 == 1) = true := beq_iff_eq.mpr c2
    have c2b1 : (a0 != 1) = false := bne_eq_false_iff_eq.mpr c2
    clear c2
    obtain rfl := Option.some.inj H
    go_enter Tryd.func84, Tryd.ntmps84
    go_wp2
    go_ret
    exact ⟨by first | rfl | (simp; done) | (simp [*]; done), by repeat (first | exact Drawn0.refl _ | apply Drawn0.step)⟩
  · rw [if_neg c2] at H
    have c2b0 : (a0 == 1) = false := beq_eq_false_iff_ne.mpr c2
    have c2b1 : (a0 != 1) = true := bne_iff_ne.mpr c2
    by_cases c3 : a0 = 2
    · rw [if_pos c3] at H
      have c3b0 : (a0 == 2) = true := beq_iff_eq.mpr c3
      have c3b1 : (a0 != 2) = false := bne_eq_false_iff_eq.mpr c3
      clear c3
      obtain rfl := Option.some.inj H
      go_enter Tryd.func84, Tryd.ntmps84
      go_wp2
      go_ret
      exact ⟨by first | rfl | (simp; done) | (simp [*]; done), by repeat (first | exact Drawn0.refl _ | apply Drawn0.step)⟩
    · rw [if_neg c3] at H
      have c3b0 : (a0 == 2) = false := beq_eq_false_iff_ne.mpr c3
      have c3b1 : (a0 != 2) = true := bne_iff_ne.mpr c3
      by_cases c4 : a0 = 3
      · rw [if_pos c4] at H
        have c4b0 : (a0 == 3) = true := beq_iff_eq.mpr c4
        have c4b1 : (a0 != 3) = false := bne_eq_false_iff_eq.mpr c4
        clear c4
        obtain rfl := Option.some.inj H
        go_enter Tryd.func84, Tryd.ntmps84
        go_wp2
        go_ret
        exact ⟨by first | rfl | (simp; done) | (simp [*]; done), by repeat (first | exact Drawn0.refl _ | apply Drawn0.step)⟩
      · rw [if_neg c4] at H
        have c4b0 : (a0 == 3) = false := beq_eq_false_iff_ne.mpr c4
        have c4b1 : (a0 != 3) = true := bne_iff_ne.mpr c4
        by_cases c5 : a0 = 4
        · rw [if_pos c5] at H
          have c5b0 : (a0 == 4) = true := beq_iff_eq.mpr c5
          have c5b1 : (a0 != 4) = false := bne_eq_false_iff_eq.mpr c5
          clear c5
          obtain rfl := Option.some.inj H
          go_enter Tryd.func84, Tryd.ntmps84
          go_wp2
          go_ret
          exact ⟨by first | rfl | (simp; done) | (simp [*]; done), by repeat (first | exact Drawn0.refl _ | apply Drawn0.step)⟩
        · rw [if_neg c5] at H
          have c5b0 : (a0 == 4) = false := beq_eq_false_iff_ne.mpr c5
          have c5b1 : (a0 != 4) = true := bne_iff_ne.mpr c5
          by_cases c6 : a0 = 5
          · rw [if_pos c6] at H
            have c6b0 : (a0 == 5) = true := beq_iff_eq.mpr c6
            have c6b1 : (a0 != 5) = false := bne_eq_false_iff_eq.mpr c6
            clear c6
            obtain rfl := Option.some.inj H
            go_enter Tryd.func84, Tryd.ntmps84
            go_wp2
            go_ret
            exact ⟨by first | rfl | (simp; done) | (simp [*]; done), by repeat (first | exact Drawn0.refl _ | apply Drawn0.step)⟩
          · rw [if_neg c6] at H
            have c6b0 : (a0 == 5) = false := beq_eq_false_iff_ne.mpr c6
            have c6b1 : (a0 != 5) = true := bne_iff_ne.mpr c6
            by_cases c7 : a0 = 6
            · rw [if_pos c7] at H
              have c7b0 : (a0 == 6) = true := beq_iff_eq.mpr c7
              have c7b1 : (a0 != 6) = false := bne_eq_false_iff_eq.mpr c7
              clear c7
              obtain rfl := Option.some.inj H
              go_enter Tryd.func84, Tryd.ntmps84
              go_wp2
              go_ret
              exact ⟨by first | rfl | (simp; done) | (simp [*]; done), by repeat (first | exact Drawn0.refl _ | apply Drawn0.step)⟩
            · rw [if_neg c7] at H
              have c7b0 : (a0 == 6) = false := beq_eq_false_iff_ne.mpr c7
              have c7b1 : (a0 != 6) = true := bne_iff_ne.mpr c7
              by_cases c8 : a0 = 7
              · rw [if_pos c8] at H
                have c8b0 : (a0 == 7) = true := beq_iff_eq.mpr c8
                have c8b1 : (a0 != 7) = false := bne_eq_false_iff_eq.mpr c8
                clear c8
                obtain rfl := Option.some.inj H
                go_enter Tryd.func84, Tryd.ntmps84
                go_wp2
                go_ret
                exact ⟨by first | rfl | (simp; done) | (simp [*]; done), by repeat (first | exact Drawn0.refl _ | apply Drawn0.step)⟩
              · rw [if_neg c8] at H
                have c8b0 : (a0 == 7) = false := beq_eq_false_iff_ne.mpr c8
                have c8b1 : (a0 != 7) = true := bne_iff_ne.mpr c8
                by_cases c9 : a0 = 8
                · rw [if_pos c9] at H
                  have c9b0 : (a0 == 8) = true := beq_iff_eq.mpr c9
                  have c9b1 : (a0 != 8) = false := bne_eq_false_iff_eq.mpr c9
                  clear c9
                  obtain rfl := Option.some.inj H
                  go_enter Tryd.func84, Tryd.ntmps84
                  go_wp2
                  go_ret
                  exact ⟨by first | rfl | (simp; done) | (simp [*]; done), by repeat (first | exact Drawn0.refl _ | apply Drawn0.step)⟩
                · rw [if_neg c9] at H
                  have c9b0 : (a0 == 8) = false := beq_eq_false_iff_ne.mpr c9
                  have c9b1 : (a0 != 8) = true := bne_iff_ne.mpr c9
                  by_cases c10 : a0 = 9
                  · rw [if_pos c10] at H
                    have c10b0 : (a0 == 9) = true := beq_iff_eq.mpr c10
                    have c10b1 : (a0 != 9) = false := bne_eq_false_iff_eq.mpr c10
                    clear c10
                    obtain rfl := Option.some.inj H
                    go_enter Tryd.func84, Tryd.ntmps84
                    go_wp2
                    go_ret
                    exact ⟨by first | rfl | (simp; done) | (simp [*]; done), by repeat (first | exact Drawn0.refl _ | apply Drawn0.step)⟩
                  · rw [if_neg c10] at H
                    have c10b0 : (a0 == 9) = false := beq_eq_false_iff_ne.mpr c10
                    have c10b1 : (a0 != 9) = true := bne_iff_ne.mpr c10
                    by_cases c11 : a0 = 10
                    · rw [if_pos c11] at H
                      have c11b0 : (a0 == 10) = true := beq_iff_eq.mpr c11
                      have c11b1 : (a0 != 10) = false := bne_eq_false_iff_eq.mpr c11
                      clear c11
                      obtain rfl := Option.some.inj H
                      go_enter Tryd.func84, Tryd.ntmps84
                      go_wp2
                      go_ret
                      exact ⟨by first | rfl | (simp; done) | (simp [*]; done), by repeat (first | exact Drawn0.refl _ | apply Drawn0.step)⟩
                    · rw [if_neg c11] at H
                      have c11b0 : (a0 == 10) = false := beq_eq_false_iff_ne.mpr c11
                      have c11b1 : (a0 != 10) = true := bne_iff_ne.mpr c11
                      by_cases c12 : a0 = 11
                      · rw [if_pos c12] at H
                        have c12b0 : (a0 == 11) = true := beq_iff_eq.mpr c12
                        have c12b1 : (a0 != 11) = false := bne_eq_false_iff_eq.mpr c12
                        clear c12
                        obtain rfl := Option.some.inj H
                        go_enter Tryd.func84, Tryd.ntmps84
                        go_wp2
                        go_ret
                        exact ⟨by first | rfl | (simp; done) | (simp [*]; done), by repeat (first | exact Drawn0.refl _ | apply Drawn0.step)⟩
                      · rw [if_neg c12] at H
                        have c12b0 : (a0 == 11) = false := beq_eq_false_iff_ne.mpr c12
                        have c12b1 : (a0 != 11) = true := bne_iff_ne.mpr c12
                        by_cases c13 : a0 = 12
                        · rw [if_pos c13] at H
                          have c13b0 : (a0 == 12) = true := beq_iff_eq.mpr c13
                          have c13b1 : (a0 != 12) = false := bne_eq_false_iff_eq.mpr c13
                          clear c13
                          obtain rfl := Option.some.inj H
                          go_enter Tryd.func84, Tryd.ntmps84
                          go_wp2
                          go_ret
                          exact ⟨by first | rfl | (simp; done) | (simp [*]; done), by repeat (first | exact Drawn0.refl _ | apply Drawn0.step)⟩
                        · rw [if_neg c13] at H
                          have c13b0 : (a0 == 12) = false := beq_eq_false_iff_ne.mpr c13
                          have c13b1 : (a0 != 12) = true := bne_iff_ne.mpr c13
                          by_cases c14 : a0 = 13
                          · rw [if_pos c14] at H
                            have c14b0 : (a0 == 13) = true := beq_iff_eq.mpr c14
                            have c14b1 : (a0 != 13) = false := bne_eq_false_iff_eq.mpr c14
                            clear c14
                            obtain rfl := Option.some.inj H
                            go_enter Tryd.func84, Tryd.ntmps84
                            go_wp2
                            go_ret
                            exact ⟨by first | rfl | (simp; done) | (simp [*]; done), by repeat (first | exact Drawn0.refl _ | apply Drawn0.step)⟩
                          · rw [if_neg c14] at H
                            have c14b0 : (a0 == 13) = false := beq_eq_false_iff_ne.mpr c14
                            have c14b1 : (a0 != 13) = true := bne_iff_ne.mpr c14
                            by_cases c15 : a0 = 14
                            · rw [if_pos c15] at H
                              have c15b0 : (a0 == 14) = true := beq_iff_eq.mpr c15
                              have c15b1 : (a0 != 14) = false := bne_eq_false_iff_eq.mpr c15
                              clear c15
                              obtain rfl := Option.some.inj H
                              go_enter Tryd.func84, Tryd.ntmps84
                              go_wp2
                              go_ret
                              exact ⟨by first | rfl | (simp; done) | (simp [*]; done), by repeat (first | exact Drawn0.refl _ | apply Drawn0.step)⟩
                            · rw [if_neg c15] at H
                              have c15b0 : (a0 == 14) = false := beq_eq_false_iff_ne.mpr c15
                              have c15b1 : (a0 != 14) = true := bne_iff_ne.mpr c15
                              by_cases c16 : a0 = 15
                              · rw [if_pos c16] at H
                                have c16b0 : (a0 == 15) = true := beq_iff_eq.mpr c16
                                have c16b1 : (a0 != 15) = false := bne_eq_false_iff_eq.mpr c16
                                clear c16
                                obtain rfl := Option.some.inj H
                                go_enter Tryd.func84, Tryd.ntmps84
                                go_wp2
                                go_ret
                                exact ⟨by first | rfl | (simp; done) | (simp [*]; done), by repeat (first | exact Drawn0.refl _ | apply Drawn0.step)⟩
                              · rw [if_neg c16] at H
                                have c16b0 : (a0 == 15) = false := beq_eq_false_iff_ne.mpr c16
                                have c16b1 : (a0 != 15) = true := bne_iff_ne.mpr c16
                                by_cases c17 : a0 = 16
                                · rw [if_pos c17] at H
                                  have c17b0 : (a0 == 16) = true := beq_iff_eq.mpr c17
                                  have c17b1 : (a0 != 16) = false := bne_eq_false_iff_eq.mpr c17
                                  clear c17
                                  obtain rfl := Option.some.inj H
                                  go_enter Tryd.func84, Tryd.ntmps84
                                  go_wp2
                                  go_ret
                                  exact ⟨by first | rfl | (simp; done) | (simp [*]; done), by repeat (first | exact Drawn0.refl _ | apply Drawn0.step)⟩
                                · rw [if_neg c17] at H
                                  have c17b0 : (a0 == 16) = false := beq_eq_false_iff_ne.mpr c17
                                  have c17b1 : (a0 != 16) = true := bne_iff_ne.mpr c17
                                  by_cases c18 : a0 = 17
                                  · rw [if_pos c18] at H
                                    have c18b0 : (a0 == 17) = true := beq_iff_eq.mpr c18
                                    have c18b1 : (a0 != 17) = false := bne_eq_false_iff_eq.mpr c18
                                    clear c18
                                    obtain rfl := Option.some.inj H
                                    go_enter Tryd.func84, Tryd.ntmps84
                                    go_wp2
                                    go_ret
                                    exact ⟨by first | rfl | (simp; done) | (simp [*]; done), by repeat (first | exact Drawn0.refl _ | apply Drawn0.step)⟩
                                  · rw [if_neg c18] at H
                                    have c18b0 : (a0 == 17) = false := beq_eq_false_iff_ne.mpr c18
                                    have c18b1 : (a0 != 17) = true := bne_iff_ne.mpr c18
                                    replace H := Option.bind_eq_some_iff.mp H
                                    obtain ⟨t101, A190, H⟩ := H
                                    replace H : (some t101) = some r := H
                                    have A19 := Aside0.mk A190
                                    clear A190
                                    obtain rfl := Option.some.inj H
                                    go_enter Tryd.func84, Tryd.ntmps84
                                    go_wp2_with (first | ((with_reducible refine gate_callee (f := 101) rfl ?_); refine goesL_ (some 39) rfl rfl Tryd.func101 (by kernel_rfl) rfl #[.int .i64 a0] rfl (by (try simp only [List.map_toArray, List.map_cons, List.map_nil]); first | done | rfl | (simp only [List.length_drop, List.length_take]; rfl)) ?_; (with_reducible refine (api_Errno_more.calls a0 t101 _ A19.out).mono ?_); rintro e w' ⟨rfl, ⟨nd, rfl⟩⟩; refine ⟨_, rfl, ?_⟩))
                                    go_ret
                                    exact ⟨by first | rfl | (simp; done) | (simp [*]; done), by repeat (first | exact Drawn0.refl _ | apply Drawn0.step)⟩

/-! ### why_named: function 53 -/
def why_named.f (a0 : ByteArray) (a1 : Int) : Option (ByteArray) := if a1 < 1 then (some (⟨#[63]⟩ : ByteArray)) else (if a1 > 25 then (some (⟨#[63]⟩ : ByteArray)) else (if a0.size + 2 ≤ 9223372036854775807 then ((api_Errno_Error.f a1).bind fun t102 => (if (a0 ++ (⟨#[58, 32]⟩ : ByteArray)).size + t102.size ≤ 9223372036854775807 then (some ((a0 ++ (⟨#[58, 32]⟩ : ByteArray)) ++ t102)) else (none))) else (none)))
set_option maxHeartbeats 8000000 in
set_option maxRecDepth 100000 in
theorem why_named.calls (a0 : ByteArray) (a1 : Int) (r : ByteArray) (w : World) (h : why_named.f a0 a1 = some r) :
    Calls Tryd.prog 53 #[.string a0, .int .i64 a1] w fun e w' => e = .returned (.string r) ∧ Drawn0 w w' := by
  have H : (if a1 < 1 then (some (⟨#[63]⟩ : ByteArray)) else (if a1 > 25 then (some (⟨#[63]⟩ : ByteArray)) else (if a0.size + 2 ≤ 9223372036854775807 then ((api_Errno_Error.f a1).bind fun t102 => (if (a0 ++ (⟨#[58, 32]⟩ : ByteArray)).size + t102.size ≤ 9223372036854775807 then (some ((a0 ++ (⟨#[58, 32]⟩ : ByteArray)) ++ t102)) else (none))) else (none)))) = some r := h
  clear h
  by_cases c3 : a1 < 1
  · rw [if_pos c3] at H
    have c3b0 : decide (a1 < 1) = true := decide_eq_true c3
    clear c3
    obtain rfl := Option.some.inj H
    go_enter Tryd.func53, Tryd.ntmps53
    go_wp2
    go_ret
    exact ⟨by first | rfl | (simp; done) | (simp [*]; done), by repeat (first | exact Drawn0.refl _ | apply Drawn0.step)⟩
  · rw [if_neg c3] at H
    have c3b0 : decide (a1 < 1) = false := decide_eq_false c3
    clear c3
    by_cases c4 : a1 > 25
    · rw [if_pos c4] at H
      have c4b0 : decide (25 < a1) = true := decide_eq_true c4
      clear c4
      obtain rfl := Option.some.inj H
      go_enter Tryd.func53, Tryd.ntmps53
      go_wp2
      go_ret
      exact ⟨by first | rfl | (simp; done) | (simp [*]; done), by repeat (first | exact Drawn0.refl _ | apply Drawn0.step)⟩
    · rw [if_neg c4] at H
      have c4b0 : decide (25 < a1) = false := decide_eq_false c4
      clear c4
      by_cases c5 : a0.size + 2 ≤ 9223372036854775807
      · rw [if_pos c5] at H
        have c5b0 := eq_true c5
        have c5b1 : decide (a0.size + 2 ≤ 9223372036854775807) = true := decide_eq_true c5
        try have c5b2 : (9223372036854775807 < a0.size + 2) = False := eq_false (Nat.not_lt.2 c5)
        replace H := Option.bind_eq_some_iff.mp H
        obtain ⟨t102, A60, H⟩ := H
        replace H : (if (a0 ++ (⟨#[58, 32]⟩ : ByteArray)).size + t102.size ≤ 9223372036854775807 then (some ((a0 ++ (⟨#[58, 32]⟩ : ByteArray)) ++ t102)) else (none)) = some r := H
        have A6 := Aside0.mk A60
        clear A60
        by_cases c7 : (a0 ++ (⟨#[58, 32]⟩ : ByteArray)).size + t102.size ≤ 9223372036854775807
        · rw [if_pos c7] at H
          have c7b0 := eq_true c7
          have c7b1 : decide ((a0 ++ (⟨#[58, 32]⟩ : ByteArray)).size + t102.size ≤ 9223372036854775807) = true := decide_eq_true c7
          try have c7b2 : (9223372036854775807 < (a0 ++ (⟨#[58, 32]⟩ : ByteArray)).size + t102.size) = False := eq_false (Nat.not_lt.2 c7)
          have c7b3 : (9223372036854775807 < a0.size + 2 + t102.size) = False := eq_false (Nat.not_lt.2 (by have h_ := c7; rw [ByteArray.size_append] at h_; exact h_))
          have c7b3 : (9223372036854775807 < a0.size + 2 + t102.size) = False := eq_false (Nat.not_lt.2 (by have h_ := c7; rw [ByteArray.size_append] at h_; exact h_))
          obtain rfl := Option.some.inj H
          go_enter Tryd.func53, Tryd.ntmps53
          go_wp2_with (first | ((with_reducible refine gate_callee (f := 84) rfl ?_); refine goesL_ (some 14) rfl rfl Tryd.func84 (by kernel_rfl) rfl #[.int .i64 a1] rfl (by (try simp only [List.map_toArray, List.map_cons, List.map_nil]); first | done | rfl | (simp only [List.length_drop, List.length_take]; rfl)) ?_; (with_reducible refine (api_Errno_Error.calls a1 t102 _ A6.out).mono ?_); rintro e w' ⟨rfl, ⟨nd, rfl⟩⟩; refine ⟨_, rfl, ?_⟩))
          go_ret
          exact ⟨by first | rfl | (simp; done) | (simp [*]; done), by repeat (first | exact Drawn0.refl _ | apply Drawn0.step)⟩
        · rw [if_neg c7] at H
          exact absurd H (by simp)
      · rw [if_neg c5] at H
        exact absurd H (by simp)

/-! ### why_Title: function 25 -/
theorem why_Title.strings : ∀ i : Fin 53, (match why_titles.cells[i.val]? with | some (.string _) => true | _ => false) = true := by decide +kernel
def why_Title.at (i : Nat) : ByteArray := match why_titles.cells[i]? with | some (.string s) => s | _ => ⟨#[63]⟩
theorem why_Title.cell (i : Nat) (h : i < 53) : why_titles.cells[i]? = some (.string (why_Title.at i)) := by
  have := why_Title.strings ⟨i, h⟩
  unfold why_Title.at
  split at this
  · rename_i s e
    have e' : why_titles.cells[i]? = some (.string s) := e
    rw [e']
  · cases this
def why_Title.f (a0 : Int) : Option ByteArray := if a0 ≥ 200 then why_named.f ⟨#[102, 105, 108, 101]⟩ (wrap64 (a0 - 200)) else if a0 ≥ 100 then why_named.f ⟨#[115, 121, 110, 116, 97, 120]⟩ (wrap64 (a0 - 100)) else if a0 ≥ 1 then (if a0 < 53 then some (why_Title.at a0.toNat) else some ⟨#[63]⟩) else some ⟨#[63]⟩
set_option maxHeartbeats 8000000 in
set_option maxRecDepth 100000 in
theorem why_Title.calls (a0 : Int) (r : ByteArray) (w : World) (h : why_Title.f a0 = some r) :
    Calls Tryd.prog 25 #[.int .i64 a0] w fun e w' => e = .returned (.string r) ∧ Below w.heap.size w w' := by
  unfold why_Title.f at h
  by_cases c1 : a0 ≥ 200
  · rw [if_pos c1] at h
    have c1b : decide (a0 ≥ 200) = true := decide_eq_true c1
    have AS := Aside0.mk h
    clear h c1
    go_enter Tryd.func25, Tryd.ntmps25
    go_wp2_with (first | (go_at_call 52; (refine (why_titles.calls _).mono ?_); rintro e w2 ⟨rfl, hb2⟩; have B2 := Aside0.mk hb2; clear hb2) | ((with_reducible refine gate_dst (N := 3) rfl ?_); refine box_event ?hg (N := 3) ?hd (cs := Array.replicate 53 (.string ByteArray.empty)) (t := 87) ?hr ?_; (case hd => rfl); (case hg => rfl); (case hr => exact why_titles.alloc_run _); intro g eg w3 hx hb; have X3 := Aside0.mk hx; have B3 := Aside0.mk (B2.out.trans (hb.mono B2.out.size)); have GE := Aside0.mk (Nat.le_trans B2.out.size (Nat.le_of_eq eg.symm)); clear hx hb eg) | ((with_reducible refine gate_store (t := 87) (p := 3) rfl ?_); refine store_event (t := 87) (p := 3) (v := .tmp 4) (w1 := w3.setRow g why_titles.cells) ?hg ?ho ?hn ?hr ?_; (case ho => rfl); (case hg => rfl); (case hn => rfl); (case hr => exact why_titles.store_run w3 g _ (by rw [Array.size_replicate]) X3.out); intro w4 hw4; have X4 := Aside0.mk (show w4.heap[g]? = some (.cells why_titles.cells 87 (0, 0)) by rw [hw4]; exact setRow_heap w3 g _ _ _ _ X3.out); have B4 := Aside0.mk (show Below w.heap.size w w4 by rw [hw4]; exact why_titles.row_below _ B3.out GE.out); clear hw4) | (go_at_call 53; (refine (why_named.calls _ _ r _ AS.out).mono ?_); rintro e w5 ⟨rfl, ⟨nd, rfl⟩⟩))
    go_ret
    exact ⟨rfl, pw_below_drewN B4.out _⟩
  · rw [if_neg c1] at h
    have c1b : decide (a0 ≥ 200) = false := decide_eq_false c1
    by_cases c2 : a0 ≥ 100
    · rw [if_pos c2] at h
      have c2b : decide (a0 ≥ 100) = true := decide_eq_true c2
      have AS := Aside0.mk h
      clear h c1 c2
      go_enter Tryd.func25, Tryd.ntmps25
      go_wp2_with (first | (go_at_call 52; (refine (why_titles.calls _).mono ?_); rintro e w2 ⟨rfl, hb2⟩; have B2 := Aside0.mk hb2; clear hb2) | ((with_reducible refine gate_dst (N := 3) rfl ?_); refine box_event ?hg (N := 3) ?hd (cs := Array.replicate 53 (.string ByteArray.empty)) (t := 87) ?hr ?_; (case hd => rfl); (case hg => rfl); (case hr => exact why_titles.alloc_run _); intro g eg w3 hx hb; have X3 := Aside0.mk hx; have B3 := Aside0.mk (B2.out.trans (hb.mono B2.out.size)); have GE := Aside0.mk (Nat.le_trans B2.out.size (Nat.le_of_eq eg.symm)); clear hx hb eg) | ((with_reducible refine gate_store (t := 87) (p := 3) rfl ?_); refine store_event (t := 87) (p := 3) (v := .tmp 4) (w1 := w3.setRow g why_titles.cells) ?hg ?ho ?hn ?hr ?_; (case ho => rfl); (case hg => rfl); (case hn => rfl); (case hr => exact why_titles.store_run w3 g _ (by rw [Array.size_replicate]) X3.out); intro w4 hw4; have X4 := Aside0.mk (show w4.heap[g]? = some (.cells why_titles.cells 87 (0, 0)) by rw [hw4]; exact setRow_heap w3 g _ _ _ _ X3.out); have B4 := Aside0.mk (show Below w.heap.size w w4 by rw [hw4]; exact why_titles.row_below _ B3.out GE.out); clear hw4) | (go_at_call 53; (refine (why_named.calls _ _ r _ AS.out).mono ?_); rintro e w5 ⟨rfl, ⟨nd, rfl⟩⟩))
      go_ret
      exact ⟨rfl, pw_below_drewN B4.out _⟩
    · rw [if_neg c2] at h
      have c2b : decide (a0 ≥ 100) = false := decide_eq_false c2
      by_cases c3 : a0 ≥ 1
      · rw [if_pos c3] at h
        have c3b : decide (a0 ≥ 1) = true := decide_eq_true c3
        by_cases c4 : a0 < 53
        · rw [if_pos c4] at h
          obtain rfl := Option.some.inj h
          have c4b : decide (a0 < 53) = true := decide_eq_true c4
          have p0 : (0 ≤ a0) = True := eq_true (by omega)
          have p1 : (a0 < 53) = True := eq_true c4
          have HL := Aside0.mk (show a0.toNat < 53 by omega)
          have hu87 := Tryd.underlying87
          clear h c1 c2 c3 c4
          go_enter Tryd.func25, Tryd.ntmps25
          go_wp2_with (first | (go_at_call 52; (refine (why_titles.calls _).mono ?_); rintro e w2 ⟨rfl, hb2⟩; have B2 := Aside0.mk hb2; clear hb2) | ((with_reducible refine gate_dst (N := 3) rfl ?_); refine box_event ?hg (N := 3) ?hd (cs := Array.replicate 53 (.string ByteArray.empty)) (t := 87) ?hr ?_; (case hd => rfl); (case hg => rfl); (case hr => exact why_titles.alloc_run _); intro g eg w3 hx hb; have X3 := Aside0.mk hx; have B3 := Aside0.mk (B2.out.trans (hb.mono B2.out.size)); have GE := Aside0.mk (Nat.le_trans B2.out.size (Nat.le_of_eq eg.symm)); clear hx hb eg) | ((with_reducible refine gate_store (t := 87) (p := 3) rfl ?_); refine store_event (t := 87) (p := 3) (v := .tmp 4) (w1 := w3.setRow g why_titles.cells) ?hg ?ho ?hn ?hr ?_; (case ho => rfl); (case hg => rfl); (case hn => rfl); (case hr => exact why_titles.store_run w3 g _ (by rw [Array.size_replicate]) X3.out); intro w4 hw4; have X4 := Aside0.mk (show w4.heap[g]? = some (.cells why_titles.cells 87 (0, 0)) by rw [hw4]; exact setRow_heap w3 g _ _ _ _ X3.out); have B4 := Aside0.mk (show Below w.heap.size w w4 by rw [hw4]; exact why_titles.row_below _ B3.out GE.out); clear hw4; have q4 := (blk_cell X4.out a0.toNat).trans (why_Title.cell a0.toNat HL.out)))
          go_ret
          exact ⟨rfl, B4.out⟩
        · rw [if_neg c4] at h
          obtain rfl := Option.some.inj h
          have c4b : decide (a0 < 53) = false := decide_eq_false c4
          clear h c1 c2 c3 c4
          go_enter Tryd.func25, Tryd.ntmps25
          go_wp2_with (first | (go_at_call 52; (refine (why_titles.calls _).mono ?_); rintro e w2 ⟨rfl, hb2⟩; have B2 := Aside0.mk hb2; clear hb2) | ((with_reducible refine gate_dst (N := 3) rfl ?_); refine box_event ?hg (N := 3) ?hd (cs := Array.replicate 53 (.string ByteArray.empty)) (t := 87) ?hr ?_; (case hd => rfl); (case hg => rfl); (case hr => exact why_titles.alloc_run _); intro g eg w3 hx hb; have X3 := Aside0.mk hx; have B3 := Aside0.mk (B2.out.trans (hb.mono B2.out.size)); have GE := Aside0.mk (Nat.le_trans B2.out.size (Nat.le_of_eq eg.symm)); clear hx hb eg) | ((with_reducible refine gate_store (t := 87) (p := 3) rfl ?_); refine store_event (t := 87) (p := 3) (v := .tmp 4) (w1 := w3.setRow g why_titles.cells) ?hg ?ho ?hn ?hr ?_; (case ho => rfl); (case hg => rfl); (case hn => rfl); (case hr => exact why_titles.store_run w3 g _ (by rw [Array.size_replicate]) X3.out); intro w4 hw4; have X4 := Aside0.mk (show w4.heap[g]? = some (.cells why_titles.cells 87 (0, 0)) by rw [hw4]; exact setRow_heap w3 g _ _ _ _ X3.out); have B4 := Aside0.mk (show Below w.heap.size w w4 by rw [hw4]; exact why_titles.row_below _ B3.out GE.out); clear hw4))
          go_ret
          exact ⟨rfl, B4.out⟩
      · rw [if_neg c3] at h
        obtain rfl := Option.some.inj h
        have c3b : decide (a0 ≥ 1) = false := decide_eq_false c3
        clear h c1 c2 c3
        go_enter Tryd.func25, Tryd.ntmps25
        go_wp2_with (first | (go_at_call 52; (refine (why_titles.calls _).mono ?_); rintro e w2 ⟨rfl, hb2⟩; have B2 := Aside0.mk hb2; clear hb2) | ((with_reducible refine gate_dst (N := 3) rfl ?_); refine box_event ?hg (N := 3) ?hd (cs := Array.replicate 53 (.string ByteArray.empty)) (t := 87) ?hr ?_; (case hd => rfl); (case hg => rfl); (case hr => exact why_titles.alloc_run _); intro g eg w3 hx hb; have X3 := Aside0.mk hx; have B3 := Aside0.mk (B2.out.trans (hb.mono B2.out.size)); have GE := Aside0.mk (Nat.le_trans B2.out.size (Nat.le_of_eq eg.symm)); clear hx hb eg) | ((with_reducible refine gate_store (t := 87) (p := 3) rfl ?_); refine store_event (t := 87) (p := 3) (v := .tmp 4) (w1 := w3.setRow g why_titles.cells) ?hg ?ho ?hn ?hr ?_; (case ho => rfl); (case hg => rfl); (case hn => rfl); (case hr => exact why_titles.store_run w3 g _ (by rw [Array.size_replicate]) X3.out); intro w4 hw4; have X4 := Aside0.mk (show w4.heap[g]? = some (.cells why_titles.cells 87 (0, 0)) by rw [hw4]; exact setRow_heap w3 g _ _ _ _ X3.out); have B4 := Aside0.mk (show Below w.heap.size w w4 by rw [hw4]; exact why_titles.row_below _ B3.out GE.out); clear hw4))
        go_ret
        exact ⟨rfl, B4.out⟩

/-! ### strconv_FormatUint: function 55 -/
def strconv_FormatUint_55.f (a0 a1 : Int) : Option ByteArray := if a1 = 10 ∧ 0 ≤ a0 ∧ a0 < 18446744073709551616 then some ⟨(Lib.decDigits a0.toNat).toArray⟩ else none
theorem strconv_FormatUint_55.calls (a0 a1 : Int) (r : ByteArray) (w : World) (hG : GL_ w) (h : strconv_FormatUint_55.f a0 a1 = some r) :
    Calls Tryd.prog 55 #[.int .u64 a0, .int .i64 a1] w fun e w' => e = .returned (.string r) ∧ Below w.heap.size w w' := by
  unfold strconv_FormatUint_55.f at h
  split at h
  · rename_i hc
    obtain ⟨rfl, h0, h1⟩ := hc
    obtain rfl := Option.some.inj h
    have e := FU.fu_outer a0.toNat (by omega) w hG
    rw [Int.toNat_of_nonneg h0] at e
    exact e
  · cases h

end Go.Proofs.YtnpgadfoohjlnabDoor.QZ
