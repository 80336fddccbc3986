/- Where a Lean function of this text answers, the Go function of its name comes to that answer: no other condition. Written by a program of this session out of the translation; Lean checks it. -/
import Derived.Test.YtnpgadfoohjlnabDoorQT0
import Derived.Test.YtnpgadfoohjlnabDoorQT1
import Derived.Test.YtnpgadfoohjlnabDoorQT4
import Derived.Test.YtnpgadfoohjlnabDoorQT5
namespace Go.Proofs.YtnpgadfoohjlnabDoor.QT
open Go.RowKit Go.Proofs.YtnpgadfoohjlnabDoorW.PrintWords Go.Proofs.YtnpgadfoohjlnabDoorW.PrintLast Go.Proofs.YtnpgadfoohjlnabDoorW.PrintMore Go.Proofs.YtnpgadfoohjlnabDoorW.PrintX
attribute [local go_sem] max2_int min2_int max_two min_two max_three min_three max_four min_four   -- for this text's walks alone
set_option linter.unusedVariables false
set_option linter.unusedSimpArgs false

/-! ### cavillaw13_TreeWhole: function 3 -/
mutual
def cavillaw13_TreeWhole.l0 : Nat → List Int → List Int → Int → Int → List (S34) → Int → Int → Int → List Int → Option (Bool)
  | 0, _, _, _, _, _, _, _, _, _ => none
  | k + 1, x3, x6, x55, x56, x180000, x192000, x192001, x192002, x192003 => if x56 < x55 then ((tree_Own.f k x180000 x56).bind fun bt195 => (if bt195.2.isNone = true then (cavillaw13_TreeWhole.l1 k x3 x6 x56 x55 x56 bt195.1 (bt195.1.length : Int) 0 x180000 x192000 x192001 x192002 x192003) else (some false))) else (cavillaw13_TreeWhole.l2 k x3 x6 (x6.length : Int) 0 x180000 x192000 x192001 x192002 x192003)
def cavillaw13_TreeWhole.l1 : Nat → List Int → List Int → Int → Int → Int → List Int → Int → Int → List (S34) → Int → Int → Int → List Int → Option (Bool)
  | 0, _, _, _, _, _, _, _, _, _, _, _, _, _ => none
  | k + 1, x3, x6, x7, x55, x56, x67, x68, x69, x180000, x192000, x192001, x192002, x192003 => if x69 < x68 then (if 0 ≤ x69 then (if x69 < (x67.length : Int) then (if (rd x67 x69) < 0 then (some false) else (if (rd x67 x69) ≥ (x3.length : Int) then (some false) else (if 0 ≤ (rd x67 x69) then (if (rd x67 x69) < (x3.length : Int) then (if (rd x3 (rd x67 x69)) = x7 then (if (rd x67 x69) < (x6.length : Int) then (cavillaw13_TreeWhole.l1 k x3 (x6.set ((rd x67 x69) : Int).toNat (wrap64 ((rd x6 (rd x67 x69)) + 1))) x7 x55 x56 x67 x68 (wrap64 (x69 + 1)) x180000 x192000 x192001 x192002 x192003) else (none)) else (some false)) else (none)) else (none)))) else (none)) else (none)) else (cavillaw13_TreeWhole.l0 k x3 x6 x55 (wrap64 (x56 + 1)) x180000 x192000 x192001 x192002 x192003)
def cavillaw13_TreeWhole.l2 : Nat → List Int → List Int → Int → Int → List (S34) → Int → Int → Int → List Int → Option (Bool)
  | 0, _, _, _, _, _, _, _, _, _ => none
  | k + 1, x3, x97, x98, x99, x180000, x192000, x192001, x192002, x192003 => if x99 < x98 then (if 0 ≤ x99 then (if x99 < (x97.length : Int) then (if x99 ≥ x192001 then (if (rd x97 x99) = 1 then (if x99 < (x3.length : Int) then (if ((decide ((rd x3 x99) < 0)) != (1 == 0)) = true then (some false) else (cavillaw13_TreeWhole.l2 k x3 x97 x98 (wrap64 (x99 + 1)) x180000 x192000 x192001 x192002 x192003)) else (none)) else (some false)) else (if (rd x97 x99) = 0 then (if x99 < (x3.length : Int) then (if ((decide ((rd x3 x99) < 0)) != (0 == 0)) = true then (some false) else (cavillaw13_TreeWhole.l2 k x3 x97 x98 (wrap64 (x99 + 1)) x180000 x192000 x192001 x192002 x192003)) else (none)) else (some false))) else (none)) else (none)) else ((tree_Parents.f k x180000).bind fun bt207 => (cavillaw13_TreeWhole.l3 k bt207.1 bt207.2 bt207.1 (bt207.1.length : Int) 0 x180000))
def cavillaw13_TreeWhole.l3 : Nat → List Int → Option Er → List Int → Int → Int → List (S34) → Option (Bool)
  | 0, _, _, _, _, _, _ => none
  | k + 1, x15, x16, x127, x128, x129, x180000 => if x129 < x128 then (if 0 ≤ x129 then (if x129 < (x127.length : Int) then (if (rd x127 x129) ≥ 0 then (if 0 ≤ (rd x127 x129) then (if (rd x127 x129) < (x180000.length : Int) then (if x129 < (x180000.length : Int) then (if ((rd_T34 x180000 (rd x127 x129)).f1) > ((rd_T34 x180000 x129).f1) then (some false) else (if ((rd_T34 x180000 (rd x127 x129)).f2) < ((rd_T34 x180000 x129).f2) then (some false) else (cavillaw13_TreeWhole.l3 k x15 x16 x127 x128 (wrap64 (x129 + 1)) x180000))) else (none)) else (none)) else (none)) else (cavillaw13_TreeWhole.l3 k x15 x16 x127 x128 (wrap64 (x129 + 1)) x180000)) else (none)) else (none)) else (if x16.isNone = true then (if (x15.length : Int) = (x180000.length : Int) then ((cavillaw13_works.f k).bind fun t217 => (some t217)) else (some false)) else (some false))
end
def cavillaw13_TreeWhole.f (k : Nat) (l0_0 : List (S34)) : Option (Bool) := (cavillaw13_Few.f k l0_0).bind fun t180 => ((cavillaw13_far.f t180).bind fun t183 => (if t183 = true then ((cavillaw13_works.f k).bind fun t184 => (some t184)) else ((tree_Owners.f k t180).bind fun bt185 => (if bt185.2.isNone = true then (if 0 ≤ (wrap64 ((t180.length : Int) - 1)) then (if (wrap64 ((t180.length : Int) - 1)) < (t180.length : Int) then (if (bt185.1.length : Int) = ((rd_T34 t180 (wrap64 ((t180.length : Int) - 1))).f2) then (if 0 ≤ (bt185.1.length : Int) then (if ((bt185.1.length : Int) : Int).toNat ≤ 35184372088832 then (cavillaw13_TreeWhole.l0 k bt185.1 (List.replicate ((bt185.1.length : Int) : Int).toNat 0) (t180.length : Int) 0 t180 ((rd_T34 t180 (wrap64 ((t180.length : Int) - 1))).f0) ((rd_T34 t180 (wrap64 ((t180.length : Int) - 1))).f1) ((rd_T34 t180 (wrap64 ((t180.length : Int) - 1))).f2) ((rd_T34 t180 (wrap64 ((t180.length : Int) - 1))).f3)) else (none)) else (none)) else (some false)) else (none)) else (none)) else (if (bt185.1.length : Int) = 0 then ((cavillaw13_works.f k).bind fun t218 => (some t218)) else (some false))))))
theorem cavillaw13_TreeWhole.mono_l : ∀ k, (∀ y0 y1 y2 y3 y4 y5 y6 y7 y8, LeO (cavillaw13_TreeWhole.l0 k y0 y1 y2 y3 y4 y5 y6 y7 y8) (cavillaw13_TreeWhole.l0 (k + 1) y0 y1 y2 y3 y4 y5 y6 y7 y8)) ∧ (∀ y0 y1 y2 y3 y4 y5 y6 y7 y8 y9 y10 y11 y12, LeO (cavillaw13_TreeWhole.l1 k y0 y1 y2 y3 y4 y5 y6 y7 y8 y9 y10 y11 y12) (cavillaw13_TreeWhole.l1 (k + 1) y0 y1 y2 y3 y4 y5 y6 y7 y8 y9 y10 y11 y12)) ∧ (∀ y0 y1 y2 y3 y4 y5 y6 y7 y8, LeO (cavillaw13_TreeWhole.l2 k y0 y1 y2 y3 y4 y5 y6 y7 y8) (cavillaw13_TreeWhole.l2 (k + 1) y0 y1 y2 y3 y4 y5 y6 y7 y8)) ∧ (∀ y0 y1 y2 y3 y4 y5, LeO (cavillaw13_TreeWhole.l3 k y0 y1 y2 y3 y4 y5) (cavillaw13_TreeWhole.l3 (k + 1) y0 y1 y2 y3 y4 y5))
  | 0 => ⟨fun _ _ _ _ _ _ _ _ _ r h => by simp [cavillaw13_TreeWhole.l0] at h, fun _ _ _ _ _ _ _ _ _ _ _ _ _ r h => by simp [cavillaw13_TreeWhole.l1] at h, fun _ _ _ _ _ _ _ _ _ r h => by simp [cavillaw13_TreeWhole.l2] at h, fun _ _ _ _ _ _ r h => by simp [cavillaw13_TreeWhole.l3] at h⟩
  | k + 1 => by
    obtain ⟨ih0, ih1, ih2, ih3⟩ := cavillaw13_TreeWhole.mono_l k
    refine ⟨?_, ?_, ?_, ?_⟩
    · intro y0 y1 y2 y3 y4 y5 y6 y7 y8
      unfold cavillaw13_TreeWhole.l0
      repeat' first
      | (with_reducible exact ih0 _ _ _ _ _ _ _ _ _)
      | (with_reducible exact ih1 _ _ _ _ _ _ _ _ _ _ _ _ _)
      | (with_reducible exact ih2 _ _ _ _ _ _ _ _ _)
      | (with_reducible exact ih3 _ _ _ _ _ _)
      | (with_reducible exact cavillaw13_Few.mono _ _)
      | (with_reducible exact cavillaw13_works.mono _)
      | (with_reducible exact tree_Own.mono _ _ _)
      | (with_reducible exact tree_Owners.mono _ _)
      | (with_reducible exact tree_Parents.mono _ _)
      | (with_reducible exact LeO.refl _)
      | (with_reducible exact LeO.none _)
      | (with_reducible refine LeO.ite ?_ ?_)
      | (with_reducible refine LeO.bind ?_ (fun _ => ?_))
      | exact ih0 _ _ _ _ _ _ _ _ _
      | exact ih1 _ _ _ _ _ _ _ _ _ _ _ _ _
      | exact ih2 _ _ _ _ _ _ _ _ _
      | exact ih3 _ _ _ _ _ _
      | exact cavillaw13_Few.mono _ _
      | exact cavillaw13_works.mono _
      | exact tree_Own.mono _ _ _
      | exact tree_Owners.mono _ _
      | exact tree_Parents.mono _ _
      | exact LeO.none _
      | refine LeO.ite ?_ ?_
      | refine LeO.bind ?_ (fun _ => ?_)
    · intro y0 y1 y2 y3 y4 y5 y6 y7 y8 y9 y10 y11 y12
      unfold cavillaw13_TreeWhole.l1
      repeat' first
      | (with_reducible exact ih0 _ _ _ _ _ _ _ _ _)
      | (with_reducible exact ih1 _ _ _ _ _ _ _ _ _ _ _ _ _)
      | (with_reducible exact ih2 _ _ _ _ _ _ _ _ _)
      | (with_reducible exact ih3 _ _ _ _ _ _)
      | (with_reducible exact cavillaw13_Few.mono _ _)
      | (with_reducible exact cavillaw13_works.mono _)
      | (with_reducible exact tree_Own.mono _ _ _)
      | (with_reducible exact tree_Owners.mono _ _)
      | (with_reducible exact tree_Parents.mono _ _)
      | (with_reducible exact LeO.refl _)
      | (with_reducible exact LeO.none _)
      | (with_reducible refine LeO.ite ?_ ?_)
      | (with_reducible refine LeO.bind ?_ (fun _ => ?_))
      | exact ih0 _ _ _ _ _ _ _ _ _
      | exact ih1 _ _ _ _ _ _ _ _ _ _ _ _ _
      | exact ih2 _ _ _ _ _ _ _ _ _
      | exact ih3 _ _ _ _ _ _
      | exact cavillaw13_Few.mono _ _
      | exact cavillaw13_works.mono _
      | exact tree_Own.mono _ _ _
      | exact tree_Owners.mono _ _
      | exact tree_Parents.mono _ _
      | exact LeO.none _
      | refine LeO.ite ?_ ?_
      | refine LeO.bind ?_ (fun _ => ?_)
    · intro y0 y1 y2 y3 y4 y5 y6 y7 y8
      unfold cavillaw13_TreeWhole.l2
      repeat' first
      | (with_reducible exact ih0 _ _ _ _ _ _ _ _ _)
      | (with_reducible exact ih1 _ _ _ _ _ _ _ _ _ _ _ _ _)
      | (with_reducible exact ih2 _ _ _ _ _ _ _ _ _)
      | (with_reducible exact ih3 _ _ _ _ _ _)
      | (with_reducible exact cavillaw13_Few.mono _ _)
      | (with_reducible exact cavillaw13_works.mono _)
      | (with_reducible exact tree_Own.mono _ _ _)
      | (with_reducible exact tree_Owners.mono _ _)
      | (with_reducible exact tree_Parents.mono _ _)
      | (with_reducible exact LeO.refl _)
      | (with_reducible exact LeO.none _)
      | (with_reducible refine LeO.ite ?_ ?_)
      | (with_reducible refine LeO.bind ?_ (fun _ => ?_))
      | exact ih0 _ _ _ _ _ _ _ _ _
      | exact ih1 _ _ _ _ _ _ _ _ _ _ _ _ _
      | exact ih2 _ _ _ _ _ _ _ _ _
      | exact ih3 _ _ _ _ _ _
      | exact cavillaw13_Few.mono _ _
      | exact cavillaw13_works.mono _
      | exact tree_Own.mono _ _ _
      | exact tree_Owners.mono _ _
      | exact tree_Parents.mono _ _
      | exact LeO.none _
      | refine LeO.ite ?_ ?_
      | refine LeO.bind ?_ (fun _ => ?_)
    · intro y0 y1 y2 y3 y4 y5
      unfold cavillaw13_TreeWhole.l3
      repeat' first
      | (with_reducible exact ih0 _ _ _ _ _ _ _ _ _)
      | (with_reducible exact ih1 _ _ _ _ _ _ _ _ _ _ _ _ _)
      | (with_reducible exact ih2 _ _ _ _ _ _ _ _ _)
      | (with_reducible exact ih3 _ _ _ _ _ _)
      | (with_reducible exact cavillaw13_Few.mono _ _)
      | (with_reducible exact cavillaw13_works.mono _)
      | (with_reducible exact tree_Own.mono _ _ _)
      | (with_reducible exact tree_Owners.mono _ _)
      | (with_reducible exact tree_Parents.mono _ _)
      | (with_reducible exact LeO.refl _)
      | (with_reducible exact LeO.none _)
      | (with_reducible refine LeO.ite ?_ ?_)
      | (with_reducible refine LeO.bind ?_ (fun _ => ?_))
      | exact ih0 _ _ _ _ _ _ _ _ _
      | exact ih1 _ _ _ _ _ _ _ _ _ _ _ _ _
      | exact ih2 _ _ _ _ _ _ _ _ _
      | exact ih3 _ _ _ _ _ _
      | exact cavillaw13_Few.mono _ _
      | exact cavillaw13_works.mono _
      | exact tree_Own.mono _ _ _
      | exact tree_Owners.mono _ _
      | exact tree_Parents.mono _ _
      | exact LeO.none _
      | refine LeO.ite ?_ ?_
      | refine LeO.bind ?_ (fun _ => ?_)
theorem cavillaw13_TreeWhole.mono : ∀ a0 k, LeO (cavillaw13_TreeWhole.f k a0) (cavillaw13_TreeWhole.f (k + 1) a0) := by
  intro a0 k
  obtain ⟨ih0, ih1, ih2, ih3⟩ := cavillaw13_TreeWhole.mono_l k
  unfold cavillaw13_TreeWhole.f
  repeat' first
      | (with_reducible exact ih0 _ _ _ _ _ _ _ _ _)
      | (with_reducible exact ih1 _ _ _ _ _ _ _ _ _ _ _ _ _)
      | (with_reducible exact ih2 _ _ _ _ _ _ _ _ _)
      | (with_reducible exact ih3 _ _ _ _ _ _)
      | (with_reducible exact cavillaw13_Few.mono _ _)
      | (with_reducible exact cavillaw13_works.mono _)
      | (with_reducible exact tree_Own.mono _ _ _)
      | (with_reducible exact tree_Owners.mono _ _)
      | (with_reducible exact tree_Parents.mono _ _)
      | (with_reducible exact LeO.refl _)
      | (with_reducible exact LeO.none _)
      | (with_reducible refine LeO.ite ?_ ?_)
      | (with_reducible refine LeO.bind ?_ (fun _ => ?_))
      | exact ih0 _ _ _ _ _ _ _ _ _
      | exact ih1 _ _ _ _ _ _ _ _ _ _ _ _ _
      | exact ih2 _ _ _ _ _ _ _ _ _
      | exact ih3 _ _ _ _ _ _
      | exact cavillaw13_Few.mono _ _
      | exact cavillaw13_works.mono _
      | exact tree_Own.mono _ _ _
      | exact tree_Owners.mono _ _
      | exact tree_Parents.mono _ _
      | exact LeO.none _
      | refine LeO.ite ?_ ?_
      | refine LeO.bind ?_ (fun _ => ?_)
set_option maxHeartbeats 8000000 in
set_option maxRecDepth 100000 in
theorem cavillaw13_TreeWhole.calls (k : Nat) (A0_0 : Option Addr) (c0_0 : Nat) (l0_0 : List (S34)) (r : Bool) (w : World) (hr0_0 : Kd.C k34 w A0_0 l0_0.length l0_0) (hc0_0 : l0_0.length ≤ c0_0) (h : cavillaw13_TreeWhole.f k l0_0 = some r) :
    Calls Tryd.prog 3 #[.agg #[.slice A0_0 l0_0.length c0_0]] w fun e w' => e = .returned (.bool r) ∧ Below w.heap.size w w' := by
  have hu24 := Tryd.underlying24
  have hu34 := Tryd.underlying34
  have hu30 := Tryd.underlying30
  have hu74 := Tryd.underlying74
  have HR0_0 := Aside0.mk hr0_0
  have HC0_0 := Aside0.mk hc0_0
  clear hr0_0 hc0_0
  have HB := Aside0.mk (Below.refl w.heap.size w)
  have H : ((cavillaw13_Few.f k l0_0).bind fun t180 => ((cavillaw13_far.f t180).bind fun t183 => (if t183 = true then ((cavillaw13_works.f k).bind fun t184 => (some t184)) else ((tree_Owners.f k t180).bind fun bt185 => (if bt185.2.isNone = true then (if 0 ≤ (wrap64 ((t180.length : Int) - 1)) then (if (wrap64 ((t180.length : Int) - 1)) < (t180.length : Int) then (if (bt185.1.length : Int) = ((rd_T34 t180 (wrap64 ((t180.length : Int) - 1))).f2) then (if 0 ≤ (bt185.1.length : Int) then (if ((bt185.1.length : Int) : Int).toNat ≤ 35184372088832 then (cavillaw13_TreeWhole.l0 k bt185.1 (List.replicate ((bt185.1.length : Int) : Int).toNat 0) (t180.length : Int) 0 t180 ((rd_T34 t180 (wrap64 ((t180.length : Int) - 1))).f0) ((rd_T34 t180 (wrap64 ((t180.length : Int) - 1))).f1) ((rd_T34 t180 (wrap64 ((t180.length : Int) - 1))).f2) ((rd_T34 t180 (wrap64 ((t180.length : Int) - 1))).f3)) else (none)) else (none)) else (some false)) else (none)) else (none)) else (if (bt185.1.length : Int) = 0 then ((cavillaw13_works.f k).bind fun t218 => (some t218)) else (some false))))))) = some r := h
  clear h
  replace H := Option.bind_eq_some_iff.mp H
  obtain ⟨t180, A20, H⟩ := H
  replace H : ((cavillaw13_far.f t180).bind fun t183 => (if t183 = true then ((cavillaw13_works.f k).bind fun t184 => (some t184)) else ((tree_Owners.f k t180).bind fun bt185 => (if bt185.2.isNone = true then (if 0 ≤ (wrap64 ((t180.length : Int) - 1)) then (if (wrap64 ((t180.length : Int) - 1)) < (t180.length : Int) then (if (bt185.1.length : Int) = ((rd_T34 t180 (wrap64 ((t180.length : Int) - 1))).f2) then (if 0 ≤ (bt185.1.length : Int) then (if ((bt185.1.length : Int) : Int).toNat ≤ 35184372088832 then (cavillaw13_TreeWhole.l0 k bt185.1 (List.replicate ((bt185.1.length : Int) : Int).toNat 0) (t180.length : Int) 0 t180 ((rd_T34 t180 (wrap64 ((t180.length : Int) - 1))).f0) ((rd_T34 t180 (wrap64 ((t180.length : Int) - 1))).f1) ((rd_T34 t180 (wrap64 ((t180.length : Int) - 1))).f2) ((rd_T34 t180 (wrap64 ((t180.length : Int) - 1))).f3)) else (none)) else (none)) else (some false)) else (none)) else (none)) else (if (bt185.1.length : Int) = 0 then ((cavillaw13_works.f k).bind fun t218 => (some t218)) else (some false)))))) = some r := H
  have A2 := Aside0.mk A20
  clear A20
  replace H := Option.bind_eq_some_iff.mp H
  obtain ⟨t183, A30, H⟩ := H
  replace H : (if t183 = true then ((cavillaw13_works.f k).bind fun t184 => (some t184)) else ((tree_Owners.f k t180).bind fun bt185 => (if bt185.2.isNone = true then (if 0 ≤ (wrap64 ((t180.length : Int) - 1)) then (if (wrap64 ((t180.length : Int) - 1)) < (t180.length : Int) then (if (bt185.1.length : Int) = ((rd_T34 t180 (wrap64 ((t180.length : Int) - 1))).f2) then (if 0 ≤ (bt185.1.length : Int) then (if ((bt185.1.length : Int) : Int).toNat ≤ 35184372088832 then (cavillaw13_TreeWhole.l0 k bt185.1 (List.replicate ((bt185.1.length : Int) : Int).toNat 0) (t180.length : Int) 0 t180 ((rd_T34 t180 (wrap64 ((t180.length : Int) - 1))).f0) ((rd_T34 t180 (wrap64 ((t180.length : Int) - 1))).f1) ((rd_T34 t180 (wrap64 ((t180.length : Int) - 1))).f2) ((rd_T34 t180 (wrap64 ((t180.length : Int) - 1))).f3)) else (none)) else (none)) else (some false)) else (none)) else (none)) else (if (bt185.1.length : Int) = 0 then ((cavillaw13_works.f k).bind fun t218 => (some t218)) else (some false))))) = some r := H
  have A3 := Aside0.mk A30
  clear A30
  by_cases c4 : t183 = true
  · subst c4
    have H1 : ((cavillaw13_works.f k).bind fun t184 => (some t184)) = some r := by rw [if_pos rfl] at H; exact H
    clear H
    have H := H1
    clear H1
    replace H := Option.bind_eq_some_iff.mp H
    obtain ⟨t184, A50, H⟩ := H
    replace H : (some t184) = some r := H
    have A5 := Aside0.mk A50
    clear A50
    obtain rfl := Option.some.inj H
    go_enter Tryd.func3, Tryd.ntmps3
    go_wp2_with (first | ((with_reducible refine gate_dst (N := 1) rfl ?_); (try (refine gate_guard (by rfl) ?_; dsimp only)); refine box_event ?hg (N := 1) ?hd (cs := #[.slice A0_0 l0_0.length c0_0]) (t := 24) ?hr ?_; (case hd => rfl); (case hg => rfl); (case hr => first | (go_simp; done) | (go_simp; rfl)); intro gb179 hg w6 hbox hb; have n0_ := Aside0.mk (below_step (by repeat (first | (with_reducible first | exact HB.out | apply below_alloc | apply pw_below_drewN | apply below_drew1) | exact HB.out)) hb); have n1_ := Aside0.mk (hbox); have n2_ := Aside0.mk ((by rw [hg]; exact (below_size (by repeat (first | (with_reducible first | exact HB.out | apply below_alloc | apply pw_below_drewN | apply below_drew1) | exact HB.out))) : w.heap.size ≤ gb179)); have n3_ := Aside0.mk ((by rw [hg]; exact (below_size (by repeat (first | (with_reducible first | exact HB.out | apply below_alloc | apply pw_below_drewN | apply below_drew1) | exact HB.out))) : w.heap.size ≤ gb179)); clear HB; have HB := n0_; have BK179 := n1_; have GW179 := n2_; have GE179 := n3_; clear n0_ n1_ n2_ n3_; clear hb hbox hg; have hcz7_0 : w6.cell? ⟨gb179, 0, none⟩ = some (.slice A0_0 l0_0.length c0_0) := (blk_cell BK179.out 0).trans rfl; have hfz7_0 := blk_frozen BK179.out 0) | (go_at_call 9; (with_reducible refine (cavillaw13_Few.calls k (fun k_ => k_ < w.heap.size) _ _ l0_0 t180 _ ?side1 A2.out).mono ?_); (case side1 => exact Kd.V_mk HC0_0.out (Kd.F_below (Kd.C_F k34_heap HR0_0.out) (by repeat (first | (with_reducible first | exact HB.out | apply below_alloc | apply pw_below_drewN | apply below_drew1 | refine below_set ?_ GE179.out) | exact HB.out)))); rintro e w8 ⟨v181, rfl, ho0, hb⟩; have n0_ := Aside0.mk (Kd.N_lower (Kd.N_mono (ok' := fun k_ => k_ ≠ gb179) ho0 (fun k_ hk_ => Or.elim hk_ (fun hs_ => fun e_ => Nat.not_le.2 hs_ (by rw [e_]; exact GW179.out)) (fun hn_ => (Kd.freshB (g := gb179) (o := .cells #[.slice A0_0 l0_0.length c0_0] 24 (0, 0)) (by (with_reducible repeat (first | refine blk_drewN ?_ _ | refine blk_drew ?_ | refine blk_alloc ?_ _)); exact BK179.out) k_ hn_)))) (below_size (by repeat (first | (with_reducible first | exact HB.out | apply below_alloc | apply pw_below_drewN | apply below_drew1 | refine below_set ?_ GE179.out) | exact HB.out)))); have n1_ := Aside0.mk (blk_below (g := gb179) (o := .cells #[.slice A0_0 l0_0.length c0_0] 24 (0, 0)) (by (with_reducible repeat (first | refine blk_drewN ?_ _ | refine blk_drew ?_ | refine blk_alloc ?_ _)); exact BK179.out) hb); have n2_ := Aside0.mk (below_step (by repeat (first | (with_reducible first | exact HB.out | apply below_alloc | apply pw_below_drewN | apply below_drew1 | refine below_set ?_ GE179.out) | exact HB.out)) hb); clear BK179; clear HB; have HO182 := n0_; have BK179 := n1_; have HB := n2_; clear n0_ n1_ n2_; (try clear hb); (try clear hb2); (try clear hk); (try clear hi); (try clear ho0); obtain ⟨Ao9, co9, eo9⟩ := Kd.N_slice HO182.out; subst eo9; have hcz10_0 : w8.cell? ⟨gb179, 0, none⟩ = some (.slice A0_0 l0_0.length c0_0) := (blk_cell BK179.out 0).trans rfl; have hfz10_0 := blk_frozen BK179.out 0) | (go_at_call 10; (with_reducible refine (cavillaw13_far.calls _ _ t180 true _ ?side1 ?side2 A3.out).mono ?_); (case side1 => refine (Kd.N_reads' (e := 34) (base := w.heap.size) (ok := fun k_ => k_ ≠ gb179) (n := t180.length) (c := co9) ?_).2.2; exact (by (with_reducible repeat (first | apply Kd.N_alloc | apply Kd.N_drewN | apply Kd.N_drew)); exact (Kd.N_mono (Kd.N_far (p := ⟨gb179, 0, none⟩) (Kd.N_mono HO182.out (fun k_ hk => (⟨hk, hk⟩ : _ ∧ k_ ≠ gb179))) (fun _ hk => hk.2) (.slice Ao9 t180.length co9)) (fun _ h_ => h_.1)))); (case side2 => exact (Kd.N_reads' HO182.out).2.1); rintro e w11 ⟨rfl, hb⟩; have n0_ := Aside0.mk (Kd.N_below (by (with_reducible repeat (first | apply Kd.N_alloc | apply Kd.N_drewN | apply Kd.N_drew)); exact (Kd.N_mono (Kd.N_far (p := ⟨gb179, 0, none⟩) (Kd.N_mono HO182.out (fun k_ hk => (⟨hk, hk⟩ : _ ∧ k_ ≠ gb179))) (fun _ hk => hk.2) (.slice Ao9 t180.length co9)) (fun _ h_ => h_.1))) hb); have n1_ := Aside0.mk (blk_below (g := gb179) (o := .cells #[.slice Ao9 t180.length co9] 24 (0, 0)) (by (with_reducible repeat (first | refine blk_drewN ?_ _ | refine blk_drew ?_ | refine blk_alloc ?_ _)); refine blk_put (cs := #[.slice A0_0 l0_0.length c0_0]) ?_ 0 _ rfl; (with_reducible repeat (first | refine blk_drewN ?_ _ | refine blk_drew ?_ | refine blk_alloc ?_ _)); exact BK179.out) hb); have n2_ := Aside0.mk (below_step (by repeat (first | (with_reducible first | exact HB.out | apply below_alloc | apply pw_below_drewN | apply below_drew1 | refine below_set ?_ GE179.out) | exact HB.out)) hb); clear HO182; clear BK179; clear HB; have HO182 := n0_; have BK179 := n1_; have HB := n2_; clear n0_ n1_ n2_; (try clear hb); (try clear hb2); (try clear hk); (try clear hi)) | (go_at_call 11; (with_reducible refine (cavillaw13_works.calls k  t184 _ A5.out).mono ?_); rintro e w12 ⟨rfl, hb⟩; have n0_ := Aside0.mk (Kd.N_below (by (with_reducible repeat (first | apply Kd.N_alloc | apply Kd.N_drewN | apply Kd.N_drew)); exact HO182.out) hb); have n1_ := Aside0.mk (blk_below (g := gb179) (o := .cells #[.slice Ao9 t180.length co9] 24 (0, 0)) (by (with_reducible repeat (first | refine blk_drewN ?_ _ | refine blk_drew ?_ | refine blk_alloc ?_ _)); exact BK179.out) hb); have n2_ := Aside0.mk (below_step (by repeat (first | (with_reducible first | exact HB.out | apply below_alloc | apply pw_below_drewN | apply below_drew1 | refine below_set ?_ GE179.out) | exact HB.out)) hb); clear HO182; clear BK179; clear HB; have HO182 := n0_; have BK179 := n1_; have HB := n2_; clear n0_ n1_ n2_; (try clear hb); (try clear hb2); (try clear hk); (try clear hi)))
    go_ret
    exact ⟨by first | rfl | (simp [errW_none, errW_some, erT_no, erV_no, erT_at, erV_at] <;> rfl) | (simp [*, errW_none, errW_some, erT_no, erV_no, erT_at, erV_at] <;> rfl), by repeat (first | (with_reducible first | exact HB.out | apply below_alloc | apply pw_below_drewN | apply below_drew1 | refine below_set ?_ GE179.out) | exact HB.out)⟩
  · replace c4 := Bool.eq_false_iff.mpr c4
    subst c4
    have H1 : ((tree_Owners.f k t180).bind fun bt185 => (if bt185.2.isNone = true then (if 0 ≤ (wrap64 ((t180.length : Int) - 1)) then (if (wrap64 ((t180.length : Int) - 1)) < (t180.length : Int) then (if (bt185.1.length : Int) = ((rd_T34 t180 (wrap64 ((t180.length : Int) - 1))).f2) then (if 0 ≤ (bt185.1.length : Int) then (if ((bt185.1.length : Int) : Int).toNat ≤ 35184372088832 then (cavillaw13_TreeWhole.l0 k bt185.1 (List.replicate ((bt185.1.length : Int) : Int).toNat 0) (t180.length : Int) 0 t180 ((rd_T34 t180 (wrap64 ((t180.length : Int) - 1))).f0) ((rd_T34 t180 (wrap64 ((t180.length : Int) - 1))).f1) ((rd_T34 t180 (wrap64 ((t180.length : Int) - 1))).f2) ((rd_T34 t180 (wrap64 ((t180.length : Int) - 1))).f3)) else (none)) else (none)) else (some false)) else (none)) else (none)) else (if (bt185.1.length : Int) = 0 then ((cavillaw13_works.f k).bind fun t218 => (some t218)) else (some false)))) = some r := by rw [if_neg (show ¬ (false = true) by decide)] at H; exact H
    clear H
    have H := H1
    clear H1
    replace H := Option.bind_eq_some_iff.mp H
    obtain ⟨⟨t185, t188⟩, A130, H⟩ := H
    replace H : (if t188.isNone = true then (if 0 ≤ (wrap64 ((t180.length : Int) - 1)) then (if (wrap64 ((t180.length : Int) - 1)) < (t180.length : Int) then (if (t185.length : Int) = ((rd_T34 t180 (wrap64 ((t180.length : Int) - 1))).f2) then (if 0 ≤ (t185.length : Int) then (if ((t185.length : Int) : Int).toNat ≤ 35184372088832 then (cavillaw13_TreeWhole.l0 k t185 (List.replicate ((t185.length : Int) : Int).toNat 0) (t180.length : Int) 0 t180 ((rd_T34 t180 (wrap64 ((t180.length : Int) - 1))).f0) ((rd_T34 t180 (wrap64 ((t180.length : Int) - 1))).f1) ((rd_T34 t180 (wrap64 ((t180.length : Int) - 1))).f2) ((rd_T34 t180 (wrap64 ((t180.length : Int) - 1))).f3)) else (none)) else (none)) else (some false)) else (none)) else (none)) else (if (t185.length : Int) = 0 then ((cavillaw13_works.f k).bind fun t218 => (some t218)) else (some false))) = some r := H
    have A13 := Aside0.mk A130
    clear A130
    rcases t188 with _ | q189
    · have H1 : (if 0 ≤ (wrap64 ((t180.length : Int) - 1)) then (if (wrap64 ((t180.length : Int) - 1)) < (t180.length : Int) then (if (t185.length : Int) = ((rd_T34 t180 (wrap64 ((t180.length : Int) - 1))).f2) then (if 0 ≤ (t185.length : Int) then (if ((t185.length : Int) : Int).toNat ≤ 35184372088832 then (cavillaw13_TreeWhole.l0 k t185 (List.replicate ((t185.length : Int) : Int).toNat 0) (t180.length : Int) 0 t180 ((rd_T34 t180 (wrap64 ((t180.length : Int) - 1))).f0) ((rd_T34 t180 (wrap64 ((t180.length : Int) - 1))).f1) ((rd_T34 t180 (wrap64 ((t180.length : Int) - 1))).f2) ((rd_T34 t180 (wrap64 ((t180.length : Int) - 1))).f3)) else (none)) else (none)) else (some false)) else (none)) else (none)) = some r := by rw [if_pos (show (none : Option Er).isNone = true by rfl)] at H; exact H
      clear H
      have H := H1
      clear H1
      try simp only [errW_none, errW_some, erT_no, erV_no, erT_at, erV_at]
      obtain ⟨ji14, hji14⟩ : ∃ j_ : Int, (wrap64 ((t180.length : Int) - 1)) = j_ := ⟨_, rfl⟩
      replace H : (if 0 ≤ (ji14) then (if (ji14) < (t180.length : Int) then (if (t185.length : Int) = ((rd_T34 t180 (ji14)).f2) then (if 0 ≤ (t185.length : Int) then (if ((t185.length : Int) : Int).toNat ≤ 35184372088832 then (cavillaw13_TreeWhole.l0 k t185 (List.replicate ((t185.length : Int) : Int).toNat 0) (t180.length : Int) 0 t180 ((rd_T34 t180 (ji14)).f0) ((rd_T34 t180 (ji14)).f1) ((rd_T34 t180 (ji14)).f2) ((rd_T34 t180 (ji14)).f3)) else (none)) else (none)) else (some false)) else (none)) else (none)) = some r := by first | (rw [hji14] at H; exact H) | (simp only [hji14] at H ⊢; exact H)
      (try rw [hji14] at A2)
      (try rw [hji14] at A3)
      (try rw [hji14] at A13)
      have hji14w : (IntKind.i64.wrap ((t180.length : Int) - 1)) = ji14 := (i64_w _).trans hji14
      by_cases c15 : 0 ≤ (ji14)
      · rw [if_pos c15] at H
        have c15b0 : decide (0 ≤ (ji14)) = true := decide_eq_true c15
        clear c15
        by_cases c16 : (ji14) < (t180.length : Int)
        · rw [if_pos c16] at H
          have c16b0 : decide ((ji14) < (t180.length : Int)) = true := decide_eq_true c16
          clear c16
          by_cases c17 : (t185.length : Int) = ((rd_T34 t180 (ji14)).f2)
          · rw [if_pos c17] at H
            have c17b0 : ((t185.length : Int) == ((rd_T34 t180 (ji14)).f2)) = true := beq_iff_eq.mpr c17
            have c17b1 : ((t185.length : Int) != ((rd_T34 t180 (ji14)).f2)) = false := bne_eq_false_iff_eq.mpr c17
            clear c17
            by_cases c18 : 0 ≤ (t185.length : Int)
            · rw [if_pos c18] at H
              have c18b0 := eq_true c18
              have c18b1 : decide (0 ≤ (t185.length : Int)) = true := decide_eq_true c18
              clear c18
              by_cases c19 : ((t185.length : Int) : Int).toNat ≤ 35184372088832
              · rw [if_pos c19] at H
                have c19b0 := eq_true c19
                have c19b1 : decide (((t185.length : Int) : Int).toNat ≤ 35184372088832) = true := decide_eq_true c19
                clear c19
                obtain ⟨y192, hy192⟩ : ∃ y_ : List Int, y_ = (List.replicate ((t185.length : Int) : Int).toNat 0) := ⟨_, rfl⟩
                replace H : (cavillaw13_TreeWhole.l0 k t185 y192 (t180.length : Int) 0 t180 ((rd_T34 t180 (ji14)).f0) ((rd_T34 t180 (ji14)).f1) ((rd_T34 t180 (ji14)).f2) ((rd_T34 t180 (ji14)).f3)) = some r := by first | (rw [hy192]; with_reducible exact H) | (have H2_ := (Option.bind_some _ _).symm.trans H; rw [hy192]; with_reducible exact H2_) | (have H2_ := (Option.bind_some _ _).symm.trans H; with_reducible exact H2_) | with_reducible exact H | (rw [hy192]; exact H) | exact H
                have Ny192 := Aside0.mk hy192
                clear hy192
                have H' := Aside0.mk H
                clear H
                go_enter Tryd.func3, Tryd.ntmps3
                go_wp2_with (first | ((with_reducible refine gate_dst (N := 1) rfl ?_); (try (refine gate_guard (by rfl) ?_; dsimp only)); refine box_event ?hg (N := 1) ?hd (cs := #[.slice A0_0 l0_0.length c0_0]) (t := 24) ?hr ?_; (case hd => rfl); (case hg => rfl); (case hr => first | (go_simp; done) | (go_simp; rfl)); intro gb179 hg w20 hbox hb; have n0_ := Aside0.mk (below_step (by repeat (first | (with_reducible first | exact HB.out | apply below_alloc | apply pw_below_drewN | apply below_drew1) | exact HB.out)) hb); have n1_ := Aside0.mk (hbox); have n2_ := Aside0.mk ((by rw [hg]; exact (below_size (by repeat (first | (with_reducible first | exact HB.out | apply below_alloc | apply pw_below_drewN | apply below_drew1) | exact HB.out))) : w.heap.size ≤ gb179)); have n3_ := Aside0.mk ((by rw [hg]; exact (below_size (by repeat (first | (with_reducible first | exact HB.out | apply below_alloc | apply pw_below_drewN | apply below_drew1) | exact HB.out))) : w.heap.size ≤ gb179)); clear HB; have HB := n0_; have BK179 := n1_; have GW179 := n2_; have GE179 := n3_; clear n0_ n1_ n2_ n3_; clear hb hbox hg; have hcz21_0 : w20.cell? ⟨gb179, 0, none⟩ = some (.slice A0_0 l0_0.length c0_0) := (blk_cell BK179.out 0).trans rfl; have hfz21_0 := blk_frozen BK179.out 0) | (go_at_call 9; (with_reducible refine (cavillaw13_Few.calls k (fun k_ => k_ < w.heap.size) _ _ l0_0 t180 _ ?side1 A2.out).mono ?_); (case side1 => exact Kd.V_mk HC0_0.out (Kd.F_below (Kd.C_F k34_heap HR0_0.out) (by repeat (first | (with_reducible first | exact HB.out | apply below_alloc | apply pw_below_drewN | apply below_drew1 | refine below_set ?_ GE179.out) | exact HB.out)))); rintro e w22 ⟨v181, rfl, ho0, hb⟩; have n0_ := Aside0.mk (Kd.N_lower (Kd.N_mono (ok' := fun k_ => k_ ≠ gb179) ho0 (fun k_ hk_ => Or.elim hk_ (fun hs_ => fun e_ => Nat.not_le.2 hs_ (by rw [e_]; exact GW179.out)) (fun hn_ => (Kd.freshB (g := gb179) (o := .cells #[.slice A0_0 l0_0.length c0_0] 24 (0, 0)) (by (with_reducible repeat (first | refine blk_drewN ?_ _ | refine blk_drew ?_ | refine blk_alloc ?_ _)); exact BK179.out) k_ hn_)))) (below_size (by repeat (first | (with_reducible first | exact HB.out | apply below_alloc | apply pw_below_drewN | apply below_drew1 | refine below_set ?_ GE179.out) | exact HB.out)))); have n1_ := Aside0.mk (blk_below (g := gb179) (o := .cells #[.slice A0_0 l0_0.length c0_0] 24 (0, 0)) (by (with_reducible repeat (first | refine blk_drewN ?_ _ | refine blk_drew ?_ | refine blk_alloc ?_ _)); exact BK179.out) hb); have n2_ := Aside0.mk (below_step (by repeat (first | (with_reducible first | exact HB.out | apply below_alloc | apply pw_below_drewN | apply below_drew1 | refine below_set ?_ GE179.out) | exact HB.out)) hb); clear BK179; clear HB; have HO182 := n0_; have BK179 := n1_; have HB := n2_; clear n0_ n1_ n2_; (try clear hb); (try clear hb2); (try clear hk); (try clear hi); (try clear ho0); obtain ⟨Ao23, co23, eo23⟩ := Kd.N_slice HO182.out; subst eo23; have hcz24_0 : w22.cell? ⟨gb179, 0, none⟩ = some (.slice A0_0 l0_0.length c0_0) := (blk_cell BK179.out 0).trans rfl; have hfz24_0 := blk_frozen BK179.out 0) | (go_at_call 10; (with_reducible refine (cavillaw13_far.calls _ _ t180 false _ ?side1 ?side2 A3.out).mono ?_); (case side1 => refine (Kd.N_reads' (e := 34) (base := w.heap.size) (ok := fun k_ => k_ ≠ gb179) (n := t180.length) (c := co23) ?_).2.2; exact (by (with_reducible repeat (first | apply Kd.N_alloc | apply Kd.N_drewN | apply Kd.N_drew)); exact (Kd.N_mono (Kd.N_far (p := ⟨gb179, 0, none⟩) (Kd.N_mono HO182.out (fun k_ hk => (⟨hk, hk⟩ : _ ∧ k_ ≠ gb179))) (fun _ hk => hk.2) (.slice Ao23 t180.length co23)) (fun _ h_ => h_.1)))); (case side2 => exact (Kd.N_reads' HO182.out).2.1); rintro e w25 ⟨rfl, hb⟩; have n0_ := Aside0.mk (Kd.N_below (by (with_reducible repeat (first | apply Kd.N_alloc | apply Kd.N_drewN | apply Kd.N_drew)); exact (Kd.N_mono (Kd.N_far (p := ⟨gb179, 0, none⟩) (Kd.N_mono HO182.out (fun k_ hk => (⟨hk, hk⟩ : _ ∧ k_ ≠ gb179))) (fun _ hk => hk.2) (.slice Ao23 t180.length co23)) (fun _ h_ => h_.1))) hb); have n1_ := Aside0.mk (blk_below (g := gb179) (o := .cells #[.slice Ao23 t180.length co23] 24 (0, 0)) (by (with_reducible repeat (first | refine blk_drewN ?_ _ | refine blk_drew ?_ | refine blk_alloc ?_ _)); refine blk_put (cs := #[.slice A0_0 l0_0.length c0_0]) ?_ 0 _ rfl; (with_reducible repeat (first | refine blk_drewN ?_ _ | refine blk_drew ?_ | refine blk_alloc ?_ _)); exact BK179.out) hb); have n2_ := Aside0.mk (below_step (by repeat (first | (with_reducible first | exact HB.out | apply below_alloc | apply pw_below_drewN | apply below_drew1 | refine below_set ?_ GE179.out) | exact HB.out)) hb); clear HO182; clear BK179; clear HB; have HO182 := n0_; have BK179 := n1_; have HB := n2_; clear n0_ n1_ n2_; (try clear hb); (try clear hb2); (try clear hk); (try clear hi); have hcz26_0 : w25.cell? ⟨gb179, 0, none⟩ = some (.slice Ao23 t180.length co23) := (blk_cell BK179.out 0).trans rfl; have hfz26_0 := blk_frozen BK179.out 0) | (go_at_call 12; (with_reducible refine (tree_Owners.calls k _ _ t180 t185 none _ ?side1 ?side2 A13.out).mono ?_); (case side1 => repeat (first | exact (Kd.N_reads' HO182.out).2.2 | (with_reducible refine Kd.C_alloc ?_ _) | (with_reducible refine Kd.C_drewN ?_ _) | (with_reducible refine Kd.C_drew ?_))); (case side2 => exact (Kd.N_reads' HO182.out).2.1); rintro e w27 ⟨v186, rfl, ho0, hb⟩; have n0_ := Aside0.mk (Kd.N_elder' (by (with_reducible repeat (first | apply Kd.N_alloc | apply Kd.N_drewN | apply Kd.N_drew)); exact HO182.out) (Kd.R_base ho0) hb); have n1_ := Aside0.mk (Kd.R_lower ho0 (below_size (by repeat (first | (with_reducible first | exact HB.out | apply below_alloc | apply pw_below_drewN | apply below_drew1 | refine below_set ?_ GE179.out) | exact HB.out)))); have n2_ := Aside0.mk (blk_below (g := gb179) (o := .cells #[.slice Ao23 t180.length co23] 24 (0, 0)) (by (with_reducible repeat (first | refine blk_drewN ?_ _ | refine blk_drew ?_ | refine blk_alloc ?_ _)); exact BK179.out) hb); have n3_ := Aside0.mk (below_step (by repeat (first | (with_reducible first | exact HB.out | apply below_alloc | apply pw_below_drewN | apply below_drew1 | refine below_set ?_ GE179.out) | exact HB.out)) hb); clear HO182; clear BK179; clear HB; have HO182 := n0_; have HO187 := n1_; have BK179 := n2_; have HB := n3_; clear n0_ n1_ n2_ n3_; (try clear hb); (try clear hb2); (try clear hk); (try clear hi); (try clear ho0); (try simp only [errW_none, errW_some, erT_no, erV_no, erT_at, erV_at]); have hcz28_0 : w27.cell? ⟨gb179, 0, none⟩ = some (.slice Ao23 t180.length co23) := (blk_cell BK179.out 0).trans rfl; have hfz28_0 := blk_frozen BK179.out 0; have p190 : 0 ≤ ((ji14) : Int) := of_decide_eq_true (by first | (with_reducible assumption) | assumption); have q190 : (ji14) < (t180.length : Int) := of_decide_eq_true (by first | (with_reducible assumption) | assumption); obtain ⟨ad190, A190_3, c190_3, e190, hx190_0, hx190_1, hx190_2, hx190_3, hl190_3, hi190_3⟩ := at_T34 (Kd.N_reads' HO182.out).2.2 (ji14) p190 q190; cases e190; obtain ⟨ce190, hce190, hMe190, hcc190⟩ := Kd.N_get HO182.out z34 (ji14) p190 (by first | exact q190 | exact of_decide_eq_true (by first | (with_reducible assumption) | assumption) | (have e_ := (Kd.N_reads' HO182.out).1; omega)); obtain ⟨ua190_3, uc190_3, rfl, ul190_3, ge190_3⟩ := k34_openF hMe190; have hv190_3 := hcc190 3 _ rfl; rw [add_field _ _ 3 (by omega)] at hv190_3; replace hv190_3 := Option.some.inj (hv190_3.symm.trans hx190_3); injection hv190_3 with hva_ hvn_ hvc_; rw [hva_] at ge190_3; rw [hvc_] at ul190_3; have HL190_3 := Aside0.mk (show Kd.V (Kd.int .i64) 3 _ w.heap.size _ _ ((rd_T34 t180 (ji14)).f3) from Kd.V_mk ul190_3 ge190_3); clear hva_ hvn_ hvc_ ge190_3 ul190_3; clear hcc190 hce190; have HR190_3 := Aside0.mk hi190_3; have HC190_3 := Aside0.mk hl190_3; clear hi190_3 hl190_3; replace p190 := eq_true p190; replace q190 := eq_true q190) | ((with_reducible refine gate_dst (N := 5) rfl ?_); (try (refine gate_guard (by rfl) ?_; dsimp only)); refine box_event ?hg (N := 5) ?hd (cs := #[.int .i64 0, .int .i64 0, .int .i64 0, .slice none 0 0]) (t := 34) ?hr ?_; (case hd => rfl); (case hg => rfl); (case hr => first | (go_simp; done) | (go_simp; rfl)); intro gb191 hg w29 hbox hb; have n0_ := Aside0.mk (Kd.N_below (Kd.N_elderB (by (with_reducible repeat (first | apply Kd.N_alloc | apply Kd.N_drewN | apply Kd.N_drew)); exact HO182.out) gb191 (Nat.le_of_eq hg.symm)) hb); have n1_ := Aside0.mk (Kd.R_below (by (with_reducible repeat (first | apply Kd.R_alloc | apply Kd.R_drewN | apply Kd.R_drew)); exact HO187.out) hb); have n2_ := Aside0.mk (Kd.V_below (Kd.V_elderB (by (with_reducible repeat (first | apply Kd.V_alloc | apply Kd.V_drewN | apply Kd.V_drew)); exact HL190_3.out) gb191 (Nat.le_of_eq hg.symm)) hb); have n3_ := Aside0.mk (blk_below (g := gb179) (o := .cells #[.slice (some ad190) t180.length co23] 24 (0, 0)) (by (with_reducible repeat (first | refine blk_drewN ?_ _ | refine blk_drew ?_ | refine blk_alloc ?_ _)); exact BK179.out) hb); have n4_ := Aside0.mk (Kd.C_below (by repeat (first | (with_reducible exact HR190_3.out) | (with_reducible refine Kd.C_alloc ?_ _) | (with_reducible refine Kd.C_drewN ?_ _) | (with_reducible refine Kd.C_drew ?_) | exact HR190_3.out)) hb); have n5_ := Aside0.mk (below_step (by repeat (first | (with_reducible first | exact HB.out | apply below_alloc | apply pw_below_drewN | apply below_drew1 | refine below_set ?_ GE179.out) | exact HB.out)) hb); have n6_ := Aside0.mk (hbox); have n7_ := Aside0.mk ((by rw [hg]; exact (below_size (by repeat (first | (with_reducible first | exact HB.out | apply below_alloc | apply pw_below_drewN | apply below_drew1 | refine below_set ?_ GE179.out) | exact HB.out))) : w.heap.size ≤ gb191)); have n8_ := Aside0.mk ((by rw [hg]; exact (below_size (by repeat (first | (with_reducible first | exact HB.out | apply below_alloc | apply pw_below_drewN | apply below_drew1 | refine below_set ?_ GE179.out) | exact HB.out))) : w.heap.size ≤ gb191)); have n9_ := Aside0.mk ((by rw [hg]; exact Nat.ne_of_lt (blk_lt (g := gb179) (o := .cells #[.slice (some ad190) t180.length co23] 24 (0, 0)) (by (with_reducible repeat (first | refine blk_drewN ?_ _ | refine blk_drew ?_ | refine blk_alloc ?_ _)); exact BK179.out)) : gb179 ≠ gb191)); have n10_ := Aside0.mk ((by rw [hg]; exact Nat.ne_of_gt (blk_lt (g := gb179) (o := .cells #[.slice (some ad190) t180.length co23] 24 (0, 0)) (by (with_reducible repeat (first | refine blk_drewN ?_ _ | refine blk_drew ?_ | refine blk_alloc ?_ _)); exact BK179.out)) : gb191 ≠ gb179)); clear HO182; clear HO187; clear HL190_3; clear BK179; clear HR190_3; clear HB; have HO182 := n0_; have HO187 := n1_; have HL190_3 := n2_; have BK179 := n3_; have HR190_3 := n4_; have HB := n5_; have BK191 := n6_; have GW191 := n7_; have GE191 := n8_; have NB179_191 := n9_; have NB191_179 := n10_; clear n0_ n1_ n2_ n3_ n4_ n5_ n6_ n7_ n8_ n9_ n10_; clear hb hbox hg; have hnb30 := NB191_179.out; have hnc30 := NB179_191.out; have hcz31_0 : w29.cell? ⟨gb191, 0, none⟩ = some (.int .i64 0) := (blk_cell BK191.out 0).trans rfl; have hcz31_1 : w29.cell? ⟨gb191, 1, none⟩ = some (.int .i64 0) := (blk_cell BK191.out 1).trans rfl; have hcz31_2 : w29.cell? ⟨gb191, 2, none⟩ = some (.int .i64 0) := (blk_cell BK191.out 2).trans rfl; have hcz31_3 : w29.cell? ⟨gb191, 3, none⟩ = some (.slice none 0 0) := (blk_cell BK191.out 3).trans rfl; have hfz31_0 := blk_frozen BK191.out 0; have hfz31_1 := blk_frozen BK191.out 1; have hfz31_2 := blk_frozen BK191.out 2; have hfz31_3 := blk_frozen BK191.out 3; obtain ⟨Ao32, co32, eo32⟩ := Kd.R_slice HO187.out; subst eo32) | ((with_reducible refine gate_dst (N := 52) rfl ?_); (try (refine gate_guard (by rfl) ?_; dsimp only)); refine Kd.R_make (Kd.int .i64) _ 3 rfl (N := 52) rfl 28 _ _ rfl (t185.length : Int) rfl rfl Tryd.underlying28 (.int .i64 0) 8 info3 rfl (by decide) (by omega) 0 (ok := fun _ => True) (okp := fun _ => True) rfl (fun _ hk => hk) trivial (of_decide_eq_true (by first | (with_reducible assumption) | assumption)) (Nat.le_trans (Nat.mul_le_mul_right _ (of_decide_eq_true (by first | (with_reducible assumption) | assumption) : (t185.length : Int).toNat ≤ 35184372088832)) (by omega)) (Below.refl _ _) (Nat.le_refl _) ?_; intro v193 w33 ho34 hb hg_ hnew_; clear hg_ hnew_; (first | rw [← Ny192.out] at ho34 | (simp only [Int.reduceToNat] at ho34; rw [← Ny192.out] at ho34)); have n0_ := Aside0.mk (Kd.N_elder' (by (with_reducible repeat (first | apply Kd.N_alloc | apply Kd.N_drewN | apply Kd.N_drew)); exact (Kd.N_mono (Kd.N_far (p := ⟨gb191, 3, none⟩) (Kd.N_far (p := ⟨gb191, 2, none⟩) (Kd.N_far (p := ⟨gb191, 1, none⟩) (Kd.N_far (p := ⟨gb191, 0, none⟩) (Kd.N_mono HO182.out (fun k_ hk => (⟨hk, hk.2⟩ : _ ∧ k_ ≠ gb191))) (fun _ hk => hk.2) (.int .i64 ((rd_T34 t180 (ji14)).f0))) (fun _ hk => hk.2) (.int .i64 ((rd_T34 t180 (ji14)).f1))) (fun _ hk => hk.2) (.int .i64 ((rd_T34 t180 (ji14)).f2))) (fun _ hk => hk.2) (.slice A190_3 ((rd_T34 t180 (ji14)).f3).length c190_3)) (fun _ h_ => h_.1))) (Kd.R_base ho34) hb); have n1_ := Aside0.mk (Kd.R_elder' (by (with_reducible repeat (first | apply Kd.R_alloc | apply Kd.R_drewN | apply Kd.R_drew)); exact (Kd.R_mono (Kd.R_far (p := ⟨gb191, 3, none⟩) (Kd.R_far (p := ⟨gb191, 2, none⟩) (Kd.R_far (p := ⟨gb191, 1, none⟩) (Kd.R_far (p := ⟨gb191, 0, none⟩) (Kd.R_types HO187.out BK191.out (by decide)) (fun _ hk => hk.2) (.int .i64 ((rd_T34 t180 (ji14)).f0))) (fun _ hk => hk.2) (.int .i64 ((rd_T34 t180 (ji14)).f1))) (fun _ hk => hk.2) (.int .i64 ((rd_T34 t180 (ji14)).f2))) (fun _ hk => hk.2) (.slice A190_3 ((rd_T34 t180 (ji14)).f3).length c190_3)) (fun _ h_ => h_.1))) (Kd.R_base ho34) hb); have n2_ := Aside0.mk (Kd.V_elder' (by (with_reducible repeat (first | apply Kd.V_alloc | apply Kd.V_drewN | apply Kd.V_drew)); exact (Kd.V_mono (Kd.V_far (p := ⟨gb191, 3, none⟩) (Kd.V_far (p := ⟨gb191, 2, none⟩) (Kd.V_far (p := ⟨gb191, 1, none⟩) (Kd.V_far (p := ⟨gb191, 0, none⟩) (Kd.V_mono HL190_3.out (fun k_ hk => (⟨hk, hk.2⟩ : _ ∧ k_ ≠ gb191))) (fun _ hk => hk.2) (.int .i64 ((rd_T34 t180 (ji14)).f0))) (fun _ hk => hk.2) (.int .i64 ((rd_T34 t180 (ji14)).f1))) (fun _ hk => hk.2) (.int .i64 ((rd_T34 t180 (ji14)).f2))) (fun _ hk => hk.2) (.slice A190_3 ((rd_T34 t180 (ji14)).f3).length c190_3)) (fun _ h_ => h_.1))) (Kd.R_base ho34) hb); have n3_ := Aside0.mk (Kd.R_lower (Kd.R_new' ho34 (Kd.R_lt (by (with_reducible repeat (first | apply Kd.R_alloc | apply Kd.R_drewN | apply Kd.R_drew)); exact (Kd.R_mono (Kd.R_far (p := ⟨gb191, 3, none⟩) (Kd.R_far (p := ⟨gb191, 2, none⟩) (Kd.R_far (p := ⟨gb191, 1, none⟩) (Kd.R_far (p := ⟨gb191, 0, none⟩) (Kd.R_types HO187.out BK191.out (by decide)) (fun _ hk => hk.2) (.int .i64 ((rd_T34 t180 (ji14)).f0))) (fun _ hk => hk.2) (.int .i64 ((rd_T34 t180 (ji14)).f1))) (fun _ hk => hk.2) (.int .i64 ((rd_T34 t180 (ji14)).f2))) (fun _ hk => hk.2) (.slice A190_3 ((rd_T34 t180 (ji14)).f3).length c190_3)) (fun _ h_ => h_.1))))) (below_size (by repeat (first | (with_reducible first | exact HB.out | apply below_alloc | apply pw_below_drewN | apply below_drew1 | refine below_set ?_ GE179.out | refine below_set ?_ GE191.out) | exact HB.out)))); have n4_ := Aside0.mk (blk_below (g := gb179) (o := .cells #[.slice (some ad190) t180.length co23] 24 (0, 0)) (by (with_reducible repeat (first | refine blk_drewN ?_ _ | refine blk_drew ?_ | refine blk_alloc ?_ _)); refine blk_far ?_ NB179_191.out _; (with_reducible repeat (first | refine blk_drewN ?_ _ | refine blk_drew ?_ | refine blk_alloc ?_ _)); refine blk_far ?_ NB179_191.out _; (with_reducible repeat (first | refine blk_drewN ?_ _ | refine blk_drew ?_ | refine blk_alloc ?_ _)); refine blk_far ?_ NB179_191.out _; (with_reducible repeat (first | refine blk_drewN ?_ _ | refine blk_drew ?_ | refine blk_alloc ?_ _)); refine blk_far ?_ NB179_191.out _; (with_reducible repeat (first | refine blk_drewN ?_ _ | refine blk_drew ?_ | refine blk_alloc ?_ _)); exact BK179.out) hb); have n5_ := Aside0.mk (Kd.C_below ((Kd.V_reads' (by (with_reducible repeat (first | apply Kd.V_alloc | apply Kd.V_drewN | apply Kd.V_drew)); exact (Kd.V_mono (Kd.V_far (p := ⟨gb191, 3, none⟩) (Kd.V_far (p := ⟨gb191, 2, none⟩) (Kd.V_far (p := ⟨gb191, 1, none⟩) (Kd.V_far (p := ⟨gb191, 0, none⟩) (Kd.V_mono HL190_3.out (fun k_ hk => (⟨hk, hk.2⟩ : _ ∧ k_ ≠ gb191))) (fun _ hk => hk.2) (.int .i64 ((rd_T34 t180 (ji14)).f0))) (fun _ hk => hk.2) (.int .i64 ((rd_T34 t180 (ji14)).f1))) (fun _ hk => hk.2) (.int .i64 ((rd_T34 t180 (ji14)).f2))) (fun _ hk => hk.2) (.slice A190_3 ((rd_T34 t180 (ji14)).f3).length c190_3)) (fun _ h_ => h_.1)))).2.2) hb); have n6_ := Aside0.mk (blk_below (g := gb191) (o := .cells #[.int .i64 ((rd_T34 t180 (ji14)).f0), .int .i64 ((rd_T34 t180 (ji14)).f1), .int .i64 ((rd_T34 t180 (ji14)).f2), .slice A190_3 ((rd_T34 t180 (ji14)).f3).length c190_3] 34 (0, 0)) (by (with_reducible repeat (first | refine blk_drewN ?_ _ | refine blk_drew ?_ | refine blk_alloc ?_ _)); refine blk_put (cs := #[.int .i64 ((rd_T34 t180 (ji14)).f0), .int .i64 ((rd_T34 t180 (ji14)).f1), .int .i64 ((rd_T34 t180 (ji14)).f2), .slice none 0 0]) ?_ 3 _ rfl; (with_reducible repeat (first | refine blk_drewN ?_ _ | refine blk_drew ?_ | refine blk_alloc ?_ _)); refine blk_put (cs := #[.int .i64 ((rd_T34 t180 (ji14)).f0), .int .i64 ((rd_T34 t180 (ji14)).f1), .int .i64 0, .slice none 0 0]) ?_ 2 _ rfl; (with_reducible repeat (first | refine blk_drewN ?_ _ | refine blk_drew ?_ | refine blk_alloc ?_ _)); refine blk_put (cs := #[.int .i64 ((rd_T34 t180 (ji14)).f0), .int .i64 0, .int .i64 0, .slice none 0 0]) ?_ 1 _ rfl; (with_reducible repeat (first | refine blk_drewN ?_ _ | refine blk_drew ?_ | refine blk_alloc ?_ _)); refine blk_put (cs := #[.int .i64 0, .int .i64 0, .int .i64 0, .slice none 0 0]) ?_ 0 _ rfl; (with_reducible repeat (first | refine blk_drewN ?_ _ | refine blk_drew ?_ | refine blk_alloc ?_ _)); exact BK191.out) hb); have n7_ := Aside0.mk (below_step (by repeat (first | (with_reducible first | exact HB.out | apply below_alloc | apply pw_below_drewN | apply below_drew1 | refine below_set ?_ GE179.out | refine below_set ?_ GE191.out) | exact HB.out)) hb); clear HO182; clear HO187; clear HL190_3; clear BK179; clear HR190_3; clear BK191; clear HB; have HO182 := n0_; have HO187 := n1_; have HL190_3 := n2_; have HO194 := n3_; have BK179 := n4_; have HR190_3 := n5_; have BK191 := n6_; have HB := n7_; clear n0_ n1_ n2_ n3_ n4_ n5_ n6_ n7_; clear hb ho34; have hcz35_0 : w33.cell? ⟨gb179, 0, none⟩ = some (.slice (some ad190) t180.length co23) := (blk_cell BK179.out 0).trans rfl; have hfz35_0 := blk_frozen BK179.out 0))
                repeat (go_quiet (first | ((with_reducible refine gate_dst (N := 1) rfl ?_); (try (refine gate_guard (by rfl) ?_; dsimp only)); refine box_event ?hg (N := 1) ?hd (cs := #[.slice A0_0 l0_0.length c0_0]) (t := 24) ?hr ?_; (case hd => rfl); (case hg => rfl); (case hr => first | (go_simp; done) | (go_simp; rfl)); intro gb179 hg w20 hbox hb; have n0_ := Aside0.mk (below_step (by repeat (first | (with_reducible first | exact HB.out | apply below_alloc | apply pw_below_drewN | apply below_drew1) | exact HB.out)) hb); have n1_ := Aside0.mk (hbox); have n2_ := Aside0.mk ((by rw [hg]; exact (below_size (by repeat (first | (with_reducible first | exact HB.out | apply below_alloc | apply pw_below_drewN | apply below_drew1) | exact HB.out))) : w.heap.size ≤ gb179)); have n3_ := Aside0.mk ((by rw [hg]; exact (below_size (by repeat (first | (with_reducible first | exact HB.out | apply below_alloc | apply pw_below_drewN | apply below_drew1) | exact HB.out))) : w.heap.size ≤ gb179)); clear HB; have HB := n0_; have BK179 := n1_; have GW179 := n2_; have GE179 := n3_; clear n0_ n1_ n2_ n3_; clear hb hbox hg; have hcz21_0 : w20.cell? ⟨gb179, 0, none⟩ = some (.slice A0_0 l0_0.length c0_0) := (blk_cell BK179.out 0).trans rfl; have hfz21_0 := blk_frozen BK179.out 0) | (go_at_call 9; (with_reducible refine (cavillaw13_Few.calls k (fun k_ => k_ < w.heap.size) _ _ l0_0 t180 _ ?side1 A2.out).mono ?_); (case side1 => exact Kd.V_mk HC0_0.out (Kd.F_below (Kd.C_F k34_heap HR0_0.out) (by repeat (first | (with_reducible first | exact HB.out | apply below_alloc | apply pw_below_drewN | apply below_drew1 | refine below_set ?_ GE179.out) | exact HB.out)))); rintro e w22 ⟨v181, rfl, ho0, hb⟩; have n0_ := Aside0.mk (Kd.N_lower (Kd.N_mono (ok' := fun k_ => k_ ≠ gb179) ho0 (fun k_ hk_ => Or.elim hk_ (fun hs_ => fun e_ => Nat.not_le.2 hs_ (by rw [e_]; exact GW179.out)) (fun hn_ => (Kd.freshB (g := gb179) (o := .cells #[.slice A0_0 l0_0.length c0_0] 24 (0, 0)) (by (with_reducible repeat (first | refine blk_drewN ?_ _ | refine blk_drew ?_ | refine blk_alloc ?_ _)); exact BK179.out) k_ hn_)))) (below_size (by repeat (first | (with_reducible first | exact HB.out | apply below_alloc | apply pw_below_drewN | apply below_drew1 | refine below_set ?_ GE179.out) | exact HB.out)))); have n1_ := Aside0.mk (blk_below (g := gb179) (o := .cells #[.slice A0_0 l0_0.length c0_0] 24 (0, 0)) (by (with_reducible repeat (first | refine blk_drewN ?_ _ | refine blk_drew ?_ | refine blk_alloc ?_ _)); exact BK179.out) hb); have n2_ := Aside0.mk (below_step (by repeat (first | (with_reducible first | exact HB.out | apply below_alloc | apply pw_below_drewN | apply below_drew1 | refine below_set ?_ GE179.out) | exact HB.out)) hb); clear BK179; clear HB; have HO182 := n0_; have BK179 := n1_; have HB := n2_; clear n0_ n1_ n2_; (try clear hb); (try clear hb2); (try clear hk); (try clear hi); (try clear ho0); obtain ⟨Ao23, co23, eo23⟩ := Kd.N_slice HO182.out; subst eo23; have hcz24_0 : w22.cell? ⟨gb179, 0, none⟩ = some (.slice A0_0 l0_0.length c0_0) := (blk_cell BK179.out 0).trans rfl; have hfz24_0 := blk_frozen BK179.out 0) | (go_at_call 10; (with_reducible refine (cavillaw13_far.calls _ _ t180 false _ ?side1 ?side2 A3.out).mono ?_); (case side1 => refine (Kd.N_reads' (e := 34) (base := w.heap.size) (ok := fun k_ => k_ ≠ gb179) (n := t180.length) (c := co23) ?_).2.2; exact (by (with_reducible repeat (first | apply Kd.N_alloc | apply Kd.N_drewN | apply Kd.N_drew)); exact (Kd.N_mono (Kd.N_far (p := ⟨gb179, 0, none⟩) (Kd.N_mono HO182.out (fun k_ hk => (⟨hk, hk⟩ : _ ∧ k_ ≠ gb179))) (fun _ hk => hk.2) (.slice Ao23 t180.length co23)) (fun _ h_ => h_.1)))); (case side2 => exact (Kd.N_reads' HO182.out).2.1); rintro e w25 ⟨rfl, hb⟩; have n0_ := Aside0.mk (Kd.N_below (by (with_reducible repeat (first | apply Kd.N_alloc | apply Kd.N_drewN | apply Kd.N_drew)); exact (Kd.N_mono (Kd.N_far (p := ⟨gb179, 0, none⟩) (Kd.N_mono HO182.out (fun k_ hk => (⟨hk, hk⟩ : _ ∧ k_ ≠ gb179))) (fun _ hk => hk.2) (.slice Ao23 t180.length co23)) (fun _ h_ => h_.1))) hb); have n1_ := Aside0.mk (blk_below (g := gb179) (o := .cells #[.slice Ao23 t180.length co23] 24 (0, 0)) (by (with_reducible repeat (first | refine blk_drewN ?_ _ | refine blk_drew ?_ | refine blk_alloc ?_ _)); refine blk_put (cs := #[.slice A0_0 l0_0.length c0_0]) ?_ 0 _ rfl; (with_reducible repeat (first | refine blk_drewN ?_ _ | refine blk_drew ?_ | refine blk_alloc ?_ _)); exact BK179.out) hb); have n2_ := Aside0.mk (below_step (by repeat (first | (with_reducible first | exact HB.out | apply below_alloc | apply pw_below_drewN | apply below_drew1 | refine below_set ?_ GE179.out) | exact HB.out)) hb); clear HO182; clear BK179; clear HB; have HO182 := n0_; have BK179 := n1_; have HB := n2_; clear n0_ n1_ n2_; (try clear hb); (try clear hb2); (try clear hk); (try clear hi); have hcz26_0 : w25.cell? ⟨gb179, 0, none⟩ = some (.slice Ao23 t180.length co23) := (blk_cell BK179.out 0).trans rfl; have hfz26_0 := blk_frozen BK179.out 0) | (go_at_call 12; (with_reducible refine (tree_Owners.calls k _ _ t180 t185 none _ ?side1 ?side2 A13.out).mono ?_); (case side1 => repeat (first | exact (Kd.N_reads' HO182.out).2.2 | (with_reducible refine Kd.C_alloc ?_ _) | (with_reducible refine Kd.C_drewN ?_ _) | (with_reducible refine Kd.C_drew ?_))); (case side2 => exact (Kd.N_reads' HO182.out).2.1); rintro e w27 ⟨v186, rfl, ho0, hb⟩; have n0_ := Aside0.mk (Kd.N_elder' (by (with_reducible repeat (first | apply Kd.N_alloc | apply Kd.N_drewN | apply Kd.N_drew)); exact HO182.out) (Kd.R_base ho0) hb); have n1_ := Aside0.mk (Kd.R_lower ho0 (below_size (by repeat (first | (with_reducible first | exact HB.out | apply below_alloc | apply pw_below_drewN | apply below_drew1 | refine below_set ?_ GE179.out) | exact HB.out)))); have n2_ := Aside0.mk (blk_below (g := gb179) (o := .cells #[.slice Ao23 t180.length co23] 24 (0, 0)) (by (with_reducible repeat (first | refine blk_drewN ?_ _ | refine blk_drew ?_ | refine blk_alloc ?_ _)); exact BK179.out) hb); have n3_ := Aside0.mk (below_step (by repeat (first | (with_reducible first | exact HB.out | apply below_alloc | apply pw_below_drewN | apply below_drew1 | refine below_set ?_ GE179.out) | exact HB.out)) hb); clear HO182; clear BK179; clear HB; have HO182 := n0_; have HO187 := n1_; have BK179 := n2_; have HB := n3_; clear n0_ n1_ n2_ n3_; (try clear hb); (try clear hb2); (try clear hk); (try clear hi); (try clear ho0); (try simp only [errW_none, errW_some, erT_no, erV_no, erT_at, erV_at]); have hcz28_0 : w27.cell? ⟨gb179, 0, none⟩ = some (.slice Ao23 t180.length co23) := (blk_cell BK179.out 0).trans rfl; have hfz28_0 := blk_frozen BK179.out 0; have p190 : 0 ≤ ((ji14) : Int) := of_decide_eq_true (by first | (with_reducible assumption) | assumption); have q190 : (ji14) < (t180.length : Int) := of_decide_eq_true (by first | (with_reducible assumption) | assumption); obtain ⟨ad190, A190_3, c190_3, e190, hx190_0, hx190_1, hx190_2, hx190_3, hl190_3, hi190_3⟩ := at_T34 (Kd.N_reads' HO182.out).2.2 (ji14) p190 q190; cases e190; obtain ⟨ce190, hce190, hMe190, hcc190⟩ := Kd.N_get HO182.out z34 (ji14) p190 (by first | exact q190 | exact of_decide_eq_true (by first | (with_reducible assumption) | assumption) | (have e_ := (Kd.N_reads' HO182.out).1; omega)); obtain ⟨ua190_3, uc190_3, rfl, ul190_3, ge190_3⟩ := k34_openF hMe190; have hv190_3 := hcc190 3 _ rfl; rw [add_field _ _ 3 (by omega)] at hv190_3; replace hv190_3 := Option.some.inj (hv190_3.symm.trans hx190_3); injection hv190_3 with hva_ hvn_ hvc_; rw [hva_] at ge190_3; rw [hvc_] at ul190_3; have HL190_3 := Aside0.mk (show Kd.V (Kd.int .i64) 3 _ w.heap.size _ _ ((rd_T34 t180 (ji14)).f3) from Kd.V_mk ul190_3 ge190_3); clear hva_ hvn_ hvc_ ge190_3 ul190_3; clear hcc190 hce190; have HR190_3 := Aside0.mk hi190_3; have HC190_3 := Aside0.mk hl190_3; clear hi190_3 hl190_3; replace p190 := eq_true p190; replace q190 := eq_true q190) | ((with_reducible refine gate_dst (N := 5) rfl ?_); (try (refine gate_guard (by rfl) ?_; dsimp only)); refine box_event ?hg (N := 5) ?hd (cs := #[.int .i64 0, .int .i64 0, .int .i64 0, .slice none 0 0]) (t := 34) ?hr ?_; (case hd => rfl); (case hg => rfl); (case hr => first | (go_simp; done) | (go_simp; rfl)); intro gb191 hg w29 hbox hb; have n0_ := Aside0.mk (Kd.N_below (Kd.N_elderB (by (with_reducible repeat (first | apply Kd.N_alloc | apply Kd.N_drewN | apply Kd.N_drew)); exact HO182.out) gb191 (Nat.le_of_eq hg.symm)) hb); have n1_ := Aside0.mk (Kd.R_below (by (with_reducible repeat (first | apply Kd.R_alloc | apply Kd.R_drewN | apply Kd.R_drew)); exact HO187.out) hb); have n2_ := Aside0.mk (Kd.V_below (Kd.V_elderB (by (with_reducible repeat (first | apply Kd.V_alloc | apply Kd.V_drewN | apply Kd.V_drew)); exact HL190_3.out) gb191 (Nat.le_of_eq hg.symm)) hb); have n3_ := Aside0.mk (blk_below (g := gb179) (o := .cells #[.slice (some ad190) t180.length co23] 24 (0, 0)) (by (with_reducible repeat (first | refine blk_drewN ?_ _ | refine blk_drew ?_ | refine blk_alloc ?_ _)); exact BK179.out) hb); have n4_ := Aside0.mk (Kd.C_below (by repeat (first | (with_reducible exact HR190_3.out) | (with_reducible refine Kd.C_alloc ?_ _) | (with_reducible refine Kd.C_drewN ?_ _) | (with_reducible refine Kd.C_drew ?_) | exact HR190_3.out)) hb); have n5_ := Aside0.mk (below_step (by repeat (first | (with_reducible first | exact HB.out | apply below_alloc | apply pw_below_drewN | apply below_drew1 | refine below_set ?_ GE179.out) | exact HB.out)) hb); have n6_ := Aside0.mk (hbox); have n7_ := Aside0.mk ((by rw [hg]; exact (below_size (by repeat (first | (with_reducible first | exact HB.out | apply below_alloc | apply pw_below_drewN | apply below_drew1 | refine below_set ?_ GE179.out) | exact HB.out))) : w.heap.size ≤ gb191)); have n8_ := Aside0.mk ((by rw [hg]; exact (below_size (by repeat (first | (with_reducible first | exact HB.out | apply below_alloc | apply pw_below_drewN | apply below_drew1 | refine below_set ?_ GE179.out) | exact HB.out))) : w.heap.size ≤ gb191)); have n9_ := Aside0.mk ((by rw [hg]; exact Nat.ne_of_lt (blk_lt (g := gb179) (o := .cells #[.slice (some ad190) t180.length co23] 24 (0, 0)) (by (with_reducible repeat (first | refine blk_drewN ?_ _ | refine blk_drew ?_ | refine blk_alloc ?_ _)); exact BK179.out)) : gb179 ≠ gb191)); have n10_ := Aside0.mk ((by rw [hg]; exact Nat.ne_of_gt (blk_lt (g := gb179) (o := .cells #[.slice (some ad190) t180.length co23] 24 (0, 0)) (by (with_reducible repeat (first | refine blk_drewN ?_ _ | refine blk_drew ?_ | refine blk_alloc ?_ _)); exact BK179.out)) : gb191 ≠ gb179)); clear HO182; clear HO187; clear HL190_3; clear BK179; clear HR190_3; clear HB; have HO182 := n0_; have HO187 := n1_; have HL190_3 := n2_; have BK179 := n3_; have HR190_3 := n4_; have HB := n5_; have BK191 := n6_; have GW191 := n7_; have GE191 := n8_; have NB179_191 := n9_; have NB191_179 := n10_; clear n0_ n1_ n2_ n3_ n4_ n5_ n6_ n7_ n8_ n9_ n10_; clear hb hbox hg; have hnb30 := NB191_179.out; have hnc30 := NB179_191.out; have hcz31_0 : w29.cell? ⟨gb191, 0, none⟩ = some (.int .i64 0) := (blk_cell BK191.out 0).trans rfl; have hcz31_1 : w29.cell? ⟨gb191, 1, none⟩ = some (.int .i64 0) := (blk_cell BK191.out 1).trans rfl; have hcz31_2 : w29.cell? ⟨gb191, 2, none⟩ = some (.int .i64 0) := (blk_cell BK191.out 2).trans rfl; have hcz31_3 : w29.cell? ⟨gb191, 3, none⟩ = some (.slice none 0 0) := (blk_cell BK191.out 3).trans rfl; have hfz31_0 := blk_frozen BK191.out 0; have hfz31_1 := blk_frozen BK191.out 1; have hfz31_2 := blk_frozen BK191.out 2; have hfz31_3 := blk_frozen BK191.out 3; obtain ⟨Ao32, co32, eo32⟩ := Kd.R_slice HO187.out; subst eo32) | ((with_reducible refine gate_dst (N := 52) rfl ?_); (try (refine gate_guard (by rfl) ?_; dsimp only)); refine Kd.R_make (Kd.int .i64) _ 3 rfl (N := 52) rfl 28 _ _ rfl (t185.length : Int) rfl rfl Tryd.underlying28 (.int .i64 0) 8 info3 rfl (by decide) (by omega) 0 (ok := fun _ => True) (okp := fun _ => True) rfl (fun _ hk => hk) trivial (of_decide_eq_true (by first | (with_reducible assumption) | assumption)) (Nat.le_trans (Nat.mul_le_mul_right _ (of_decide_eq_true (by first | (with_reducible assumption) | assumption) : (t185.length : Int).toNat ≤ 35184372088832)) (by omega)) (Below.refl _ _) (Nat.le_refl _) ?_; intro v193 w33 ho34 hb hg_ hnew_; clear hg_ hnew_; (first | rw [← Ny192.out] at ho34 | (simp only [Int.reduceToNat] at ho34; rw [← Ny192.out] at ho34)); have n0_ := Aside0.mk (Kd.N_elder' (by (with_reducible repeat (first | apply Kd.N_alloc | apply Kd.N_drewN | apply Kd.N_drew)); exact (Kd.N_mono (Kd.N_far (p := ⟨gb191, 3, none⟩) (Kd.N_far (p := ⟨gb191, 2, none⟩) (Kd.N_far (p := ⟨gb191, 1, none⟩) (Kd.N_far (p := ⟨gb191, 0, none⟩) (Kd.N_mono HO182.out (fun k_ hk => (⟨hk, hk.2⟩ : _ ∧ k_ ≠ gb191))) (fun _ hk => hk.2) (.int .i64 ((rd_T34 t180 (ji14)).f0))) (fun _ hk => hk.2) (.int .i64 ((rd_T34 t180 (ji14)).f1))) (fun _ hk => hk.2) (.int .i64 ((rd_T34 t180 (ji14)).f2))) (fun _ hk => hk.2) (.slice A190_3 ((rd_T34 t180 (ji14)).f3).length c190_3)) (fun _ h_ => h_.1))) (Kd.R_base ho34) hb); have n1_ := Aside0.mk (Kd.R_elder' (by (with_reducible repeat (first | apply Kd.R_alloc | apply Kd.R_drewN | apply Kd.R_drew)); exact (Kd.R_mono (Kd.R_far (p := ⟨gb191, 3, none⟩) (Kd.R_far (p := ⟨gb191, 2, none⟩) (Kd.R_far (p := ⟨gb191, 1, none⟩) (Kd.R_far (p := ⟨gb191, 0, none⟩) (Kd.R_types HO187.out BK191.out (by decide)) (fun _ hk => hk.2) (.int .i64 ((rd_T34 t180 (ji14)).f0))) (fun _ hk => hk.2) (.int .i64 ((rd_T34 t180 (ji14)).f1))) (fun _ hk => hk.2) (.int .i64 ((rd_T34 t180 (ji14)).f2))) (fun _ hk => hk.2) (.slice A190_3 ((rd_T34 t180 (ji14)).f3).length c190_3)) (fun _ h_ => h_.1))) (Kd.R_base ho34) hb); have n2_ := Aside0.mk (Kd.V_elder' (by (with_reducible repeat (first | apply Kd.V_alloc | apply Kd.V_drewN | apply Kd.V_drew)); exact (Kd.V_mono (Kd.V_far (p := ⟨gb191, 3, none⟩) (Kd.V_far (p := ⟨gb191, 2, none⟩) (Kd.V_far (p := ⟨gb191, 1, none⟩) (Kd.V_far (p := ⟨gb191, 0, none⟩) (Kd.V_mono HL190_3.out (fun k_ hk => (⟨hk, hk.2⟩ : _ ∧ k_ ≠ gb191))) (fun _ hk => hk.2) (.int .i64 ((rd_T34 t180 (ji14)).f0))) (fun _ hk => hk.2) (.int .i64 ((rd_T34 t180 (ji14)).f1))) (fun _ hk => hk.2) (.int .i64 ((rd_T34 t180 (ji14)).f2))) (fun _ hk => hk.2) (.slice A190_3 ((rd_T34 t180 (ji14)).f3).length c190_3)) (fun _ h_ => h_.1))) (Kd.R_base ho34) hb); have n3_ := Aside0.mk (Kd.R_lower (Kd.R_new' ho34 (Kd.R_lt (by (with_reducible repeat (first | apply Kd.R_alloc | apply Kd.R_drewN | apply Kd.R_drew)); exact (Kd.R_mono (Kd.R_far (p := ⟨gb191, 3, none⟩) (Kd.R_far (p := ⟨gb191, 2, none⟩) (Kd.R_far (p := ⟨gb191, 1, none⟩) (Kd.R_far (p := ⟨gb191, 0, none⟩) (Kd.R_types HO187.out BK191.out (by decide)) (fun _ hk => hk.2) (.int .i64 ((rd_T34 t180 (ji14)).f0))) (fun _ hk => hk.2) (.int .i64 ((rd_T34 t180 (ji14)).f1))) (fun _ hk => hk.2) (.int .i64 ((rd_T34 t180 (ji14)).f2))) (fun _ hk => hk.2) (.slice A190_3 ((rd_T34 t180 (ji14)).f3).length c190_3)) (fun _ h_ => h_.1))))) (below_size (by repeat (first | (with_reducible first | exact HB.out | apply below_alloc | apply pw_below_drewN | apply below_drew1 | refine below_set ?_ GE179.out | refine below_set ?_ GE191.out) | exact HB.out)))); have n4_ := Aside0.mk (blk_below (g := gb179) (o := .cells #[.slice (some ad190) t180.length co23] 24 (0, 0)) (by (with_reducible repeat (first | refine blk_drewN ?_ _ | refine blk_drew ?_ | refine blk_alloc ?_ _)); refine blk_far ?_ NB179_191.out _; (with_reducible repeat (first | refine blk_drewN ?_ _ | refine blk_drew ?_ | refine blk_alloc ?_ _)); refine blk_far ?_ NB179_191.out _; (with_reducible repeat (first | refine blk_drewN ?_ _ | refine blk_drew ?_ | refine blk_alloc ?_ _)); refine blk_far ?_ NB179_191.out _; (with_reducible repeat (first | refine blk_drewN ?_ _ | refine blk_drew ?_ | refine blk_alloc ?_ _)); refine blk_far ?_ NB179_191.out _; (with_reducible repeat (first | refine blk_drewN ?_ _ | refine blk_drew ?_ | refine blk_alloc ?_ _)); exact BK179.out) hb); have n5_ := Aside0.mk (Kd.C_below ((Kd.V_reads' (by (with_reducible repeat (first | apply Kd.V_alloc | apply Kd.V_drewN | apply Kd.V_drew)); exact (Kd.V_mono (Kd.V_far (p := ⟨gb191, 3, none⟩) (Kd.V_far (p := ⟨gb191, 2, none⟩) (Kd.V_far (p := ⟨gb191, 1, none⟩) (Kd.V_far (p := ⟨gb191, 0, none⟩) (Kd.V_mono HL190_3.out (fun k_ hk => (⟨hk, hk.2⟩ : _ ∧ k_ ≠ gb191))) (fun _ hk => hk.2) (.int .i64 ((rd_T34 t180 (ji14)).f0))) (fun _ hk => hk.2) (.int .i64 ((rd_T34 t180 (ji14)).f1))) (fun _ hk => hk.2) (.int .i64 ((rd_T34 t180 (ji14)).f2))) (fun _ hk => hk.2) (.slice A190_3 ((rd_T34 t180 (ji14)).f3).length c190_3)) (fun _ h_ => h_.1)))).2.2) hb); have n6_ := Aside0.mk (blk_below (g := gb191) (o := .cells #[.int .i64 ((rd_T34 t180 (ji14)).f0), .int .i64 ((rd_T34 t180 (ji14)).f1), .int .i64 ((rd_T34 t180 (ji14)).f2), .slice A190_3 ((rd_T34 t180 (ji14)).f3).length c190_3] 34 (0, 0)) (by (with_reducible repeat (first | refine blk_drewN ?_ _ | refine blk_drew ?_ | refine blk_alloc ?_ _)); refine blk_put (cs := #[.int .i64 ((rd_T34 t180 (ji14)).f0), .int .i64 ((rd_T34 t180 (ji14)).f1), .int .i64 ((rd_T34 t180 (ji14)).f2), .slice none 0 0]) ?_ 3 _ rfl; (with_reducible repeat (first | refine blk_drewN ?_ _ | refine blk_drew ?_ | refine blk_alloc ?_ _)); refine blk_put (cs := #[.int .i64 ((rd_T34 t180 (ji14)).f0), .int .i64 ((rd_T34 t180 (ji14)).f1), .int .i64 0, .slice none 0 0]) ?_ 2 _ rfl; (with_reducible repeat (first | refine blk_drewN ?_ _ | refine blk_drew ?_ | refine blk_alloc ?_ _)); refine blk_put (cs := #[.int .i64 ((rd_T34 t180 (ji14)).f0), .int .i64 0, .int .i64 0, .slice none 0 0]) ?_ 1 _ rfl; (with_reducible repeat (first | refine blk_drewN ?_ _ | refine blk_drew ?_ | refine blk_alloc ?_ _)); refine blk_put (cs := #[.int .i64 0, .int .i64 0, .int .i64 0, .slice none 0 0]) ?_ 0 _ rfl; (with_reducible repeat (first | refine blk_drewN ?_ _ | refine blk_drew ?_ | refine blk_alloc ?_ _)); exact BK191.out) hb); have n7_ := Aside0.mk (below_step (by repeat (first | (with_reducible first | exact HB.out | apply below_alloc | apply pw_below_drewN | apply below_drew1 | refine below_set ?_ GE179.out | refine below_set ?_ GE191.out) | exact HB.out)) hb); clear HO182; clear HO187; clear HL190_3; clear BK179; clear HR190_3; clear BK191; clear HB; have HO182 := n0_; have HO187 := n1_; have HL190_3 := n2_; have HO194 := n3_; have BK179 := n4_; have HR190_3 := n5_; have BK191 := n6_; have HB := n7_; clear n0_ n1_ n2_ n3_ n4_ n5_ n6_ n7_; clear hb ho34; have hcz35_0 : w33.cell? ⟨gb179, 0, none⟩ = some (.slice (some ad190) t180.length co23) := (blk_cell BK179.out 0).trans rfl; have hfz35_0 := blk_frozen BK179.out 0)); try go_wp2_with (first | ((with_reducible refine gate_dst (N := 1) rfl ?_); (try (refine gate_guard (by rfl) ?_; dsimp only)); refine box_event ?hg (N := 1) ?hd (cs := #[.slice A0_0 l0_0.length c0_0]) (t := 24) ?hr ?_; (case hd => rfl); (case hg => rfl); (case hr => first | (go_simp; done) | (go_simp; rfl)); intro gb179 hg w20 hbox hb; have n0_ := Aside0.mk (below_step (by repeat (first | (with_reducible first | exact HB.out | apply below_alloc | apply pw_below_drewN | apply below_drew1) | exact HB.out)) hb); have n1_ := Aside0.mk (hbox); have n2_ := Aside0.mk ((by rw [hg]; exact (below_size (by repeat (first | (with_reducible first | exact HB.out | apply below_alloc | apply pw_below_drewN | apply below_drew1) | exact HB.out))) : w.heap.size ≤ gb179)); have n3_ := Aside0.mk ((by rw [hg]; exact (below_size (by repeat (first | (with_reducible first | exact HB.out | apply below_alloc | apply pw_below_drewN | apply below_drew1) | exact HB.out))) : w.heap.size ≤ gb179)); clear HB; have HB := n0_; have BK179 := n1_; have GW179 := n2_; have GE179 := n3_; clear n0_ n1_ n2_ n3_; clear hb hbox hg; have hcz21_0 : w20.cell? ⟨gb179, 0, none⟩ = some (.slice A0_0 l0_0.length c0_0) := (blk_cell BK179.out 0).trans rfl; have hfz21_0 := blk_frozen BK179.out 0) | (go_at_call 9; (with_reducible refine (cavillaw13_Few.calls k (fun k_ => k_ < w.heap.size) _ _ l0_0 t180 _ ?side1 A2.out).mono ?_); (case side1 => exact Kd.V_mk HC0_0.out (Kd.F_below (Kd.C_F k34_heap HR0_0.out) (by repeat (first | (with_reducible first | exact HB.out | apply below_alloc | apply pw_below_drewN | apply below_drew1 | refine below_set ?_ GE179.out) | exact HB.out)))); rintro e w22 ⟨v181, rfl, ho0, hb⟩; have n0_ := Aside0.mk (Kd.N_lower (Kd.N_mono (ok' := fun k_ => k_ ≠ gb179) ho0 (fun k_ hk_ => Or.elim hk_ (fun hs_ => fun e_ => Nat.not_le.2 hs_ (by rw [e_]; exact GW179.out)) (fun hn_ => (Kd.freshB (g := gb179) (o := .cells #[.slice A0_0 l0_0.length c0_0] 24 (0, 0)) (by (with_reducible repeat (first | refine blk_drewN ?_ _ | refine blk_drew ?_ | refine blk_alloc ?_ _)); exact BK179.out) k_ hn_)))) (below_size (by repeat (first | (with_reducible first | exact HB.out | apply below_alloc | apply pw_below_drewN | apply below_drew1 | refine below_set ?_ GE179.out) | exact HB.out)))); have n1_ := Aside0.mk (blk_below (g := gb179) (o := .cells #[.slice A0_0 l0_0.length c0_0] 24 (0, 0)) (by (with_reducible repeat (first | refine blk_drewN ?_ _ | refine blk_drew ?_ | refine blk_alloc ?_ _)); exact BK179.out) hb); have n2_ := Aside0.mk (below_step (by repeat (first | (with_reducible first | exact HB.out | apply below_alloc | apply pw_below_drewN | apply below_drew1 | refine below_set ?_ GE179.out) | exact HB.out)) hb); clear BK179; clear HB; have HO182 := n0_; have BK179 := n1_; have HB := n2_; clear n0_ n1_ n2_; (try clear hb); (try clear hb2); (try clear hk); (try clear hi); (try clear ho0); obtain ⟨Ao23, co23, eo23⟩ := Kd.N_slice HO182.out; subst eo23; have hcz24_0 : w22.cell? ⟨gb179, 0, none⟩ = some (.slice A0_0 l0_0.length c0_0) := (blk_cell BK179.out 0).trans rfl; have hfz24_0 := blk_frozen BK179.out 0) | (go_at_call 10; (with_reducible refine (cavillaw13_far.calls _ _ t180 false _ ?side1 ?side2 A3.out).mono ?_); (case side1 => refine (Kd.N_reads' (e := 34) (base := w.heap.size) (ok := fun k_ => k_ ≠ gb179) (n := t180.length) (c := co23) ?_).2.2; exact (by (with_reducible repeat (first | apply Kd.N_alloc | apply Kd.N_drewN | apply Kd.N_drew)); exact (Kd.N_mono (Kd.N_far (p := ⟨gb179, 0, none⟩) (Kd.N_mono HO182.out (fun k_ hk => (⟨hk, hk⟩ : _ ∧ k_ ≠ gb179))) (fun _ hk => hk.2) (.slice Ao23 t180.length co23)) (fun _ h_ => h_.1)))); (case side2 => exact (Kd.N_reads' HO182.out).2.1); rintro e w25 ⟨rfl, hb⟩; have n0_ := Aside0.mk (Kd.N_below (by (with_reducible repeat (first | apply Kd.N_alloc | apply Kd.N_drewN | apply Kd.N_drew)); exact (Kd.N_mono (Kd.N_far (p := ⟨gb179, 0, none⟩) (Kd.N_mono HO182.out (fun k_ hk => (⟨hk, hk⟩ : _ ∧ k_ ≠ gb179))) (fun _ hk => hk.2) (.slice Ao23 t180.length co23)) (fun _ h_ => h_.1))) hb); have n1_ := Aside0.mk (blk_below (g := gb179) (o := .cells #[.slice Ao23 t180.length co23] 24 (0, 0)) (by (with_reducible repeat (first | refine blk_drewN ?_ _ | refine blk_drew ?_ | refine blk_alloc ?_ _)); refine blk_put (cs := #[.slice A0_0 l0_0.length c0_0]) ?_ 0 _ rfl; (with_reducible repeat (first | refine blk_drewN ?_ _ | refine blk_drew ?_ | refine blk_alloc ?_ _)); exact BK179.out) hb); have n2_ := Aside0.mk (below_step (by repeat (first | (with_reducible first | exact HB.out | apply below_alloc | apply pw_below_drewN | apply below_drew1 | refine below_set ?_ GE179.out) | exact HB.out)) hb); clear HO182; clear BK179; clear HB; have HO182 := n0_; have BK179 := n1_; have HB := n2_; clear n0_ n1_ n2_; (try clear hb); (try clear hb2); (try clear hk); (try clear hi); have hcz26_0 : w25.cell? ⟨gb179, 0, none⟩ = some (.slice Ao23 t180.length co23) := (blk_cell BK179.out 0).trans rfl; have hfz26_0 := blk_frozen BK179.out 0) | (go_at_call 12; (with_reducible refine (tree_Owners.calls k _ _ t180 t185 none _ ?side1 ?side2 A13.out).mono ?_); (case side1 => repeat (first | exact (Kd.N_reads' HO182.out).2.2 | (with_reducible refine Kd.C_alloc ?_ _) | (with_reducible refine Kd.C_drewN ?_ _) | (with_reducible refine Kd.C_drew ?_))); (case side2 => exact (Kd.N_reads' HO182.out).2.1); rintro e w27 ⟨v186, rfl, ho0, hb⟩; have n0_ := Aside0.mk (Kd.N_elder' (by (with_reducible repeat (first | apply Kd.N_alloc | apply Kd.N_drewN | apply Kd.N_drew)); exact HO182.out) (Kd.R_base ho0) hb); have n1_ := Aside0.mk (Kd.R_lower ho0 (below_size (by repeat (first | (with_reducible first | exact HB.out | apply below_alloc | apply pw_below_drewN | apply below_drew1 | refine below_set ?_ GE179.out) | exact HB.out)))); have n2_ := Aside0.mk (blk_below (g := gb179) (o := .cells #[.slice Ao23 t180.length co23] 24 (0, 0)) (by (with_reducible repeat (first | refine blk_drewN ?_ _ | refine blk_drew ?_ | refine blk_alloc ?_ _)); exact BK179.out) hb); have n3_ := Aside0.mk (below_step (by repeat (first | (with_reducible first | exact HB.out | apply below_alloc | apply pw_below_drewN | apply below_drew1 | refine below_set ?_ GE179.out) | exact HB.out)) hb); clear HO182; clear BK179; clear HB; have HO182 := n0_; have HO187 := n1_; have BK179 := n2_; have HB := n3_; clear n0_ n1_ n2_ n3_; (try clear hb); (try clear hb2); (try clear hk); (try clear hi); (try clear ho0); (try simp only [errW_none, errW_some, erT_no, erV_no, erT_at, erV_at]); have hcz28_0 : w27.cell? ⟨gb179, 0, none⟩ = some (.slice Ao23 t180.length co23) := (blk_cell BK179.out 0).trans rfl; have hfz28_0 := blk_frozen BK179.out 0; have p190 : 0 ≤ ((ji14) : Int) := of_decide_eq_true (by first | (with_reducible assumption) | assumption); have q190 : (ji14) < (t180.length : Int) := of_decide_eq_true (by first | (with_reducible assumption) | assumption); obtain ⟨ad190, A190_3, c190_3, e190, hx190_0, hx190_1, hx190_2, hx190_3, hl190_3, hi190_3⟩ := at_T34 (Kd.N_reads' HO182.out).2.2 (ji14) p190 q190; cases e190; obtain ⟨ce190, hce190, hMe190, hcc190⟩ := Kd.N_get HO182.out z34 (ji14) p190 (by first | exact q190 | exact of_decide_eq_true (by first | (with_reducible assumption) | assumption) | (have e_ := (Kd.N_reads' HO182.out).1; omega)); obtain ⟨ua190_3, uc190_3, rfl, ul190_3, ge190_3⟩ := k34_openF hMe190; have hv190_3 := hcc190 3 _ rfl; rw [add_field _ _ 3 (by omega)] at hv190_3; replace hv190_3 := Option.some.inj (hv190_3.symm.trans hx190_3); injection hv190_3 with hva_ hvn_ hvc_; rw [hva_] at ge190_3; rw [hvc_] at ul190_3; have HL190_3 := Aside0.mk (show Kd.V (Kd.int .i64) 3 _ w.heap.size _ _ ((rd_T34 t180 (ji14)).f3) from Kd.V_mk ul190_3 ge190_3); clear hva_ hvn_ hvc_ ge190_3 ul190_3; clear hcc190 hce190; have HR190_3 := Aside0.mk hi190_3; have HC190_3 := Aside0.mk hl190_3; clear hi190_3 hl190_3; replace p190 := eq_true p190; replace q190 := eq_true q190) | ((with_reducible refine gate_dst (N := 5) rfl ?_); (try (refine gate_guard (by rfl) ?_; dsimp only)); refine box_event ?hg (N := 5) ?hd (cs := #[.int .i64 0, .int .i64 0, .int .i64 0, .slice none 0 0]) (t := 34) ?hr ?_; (case hd => rfl); (case hg => rfl); (case hr => first | (go_simp; done) | (go_simp; rfl)); intro gb191 hg w29 hbox hb; have n0_ := Aside0.mk (Kd.N_below (Kd.N_elderB (by (with_reducible repeat (first | apply Kd.N_alloc | apply Kd.N_drewN | apply Kd.N_drew)); exact HO182.out) gb191 (Nat.le_of_eq hg.symm)) hb); have n1_ := Aside0.mk (Kd.R_below (by (with_reducible repeat (first | apply Kd.R_alloc | apply Kd.R_drewN | apply Kd.R_drew)); exact HO187.out) hb); have n2_ := Aside0.mk (Kd.V_below (Kd.V_elderB (by (with_reducible repeat (first | apply Kd.V_alloc | apply Kd.V_drewN | apply Kd.V_drew)); exact HL190_3.out) gb191 (Nat.le_of_eq hg.symm)) hb); have n3_ := Aside0.mk (blk_below (g := gb179) (o := .cells #[.slice (some ad190) t180.length co23] 24 (0, 0)) (by (with_reducible repeat (first | refine blk_drewN ?_ _ | refine blk_drew ?_ | refine blk_alloc ?_ _)); exact BK179.out) hb); have n4_ := Aside0.mk (Kd.C_below (by repeat (first | (with_reducible exact HR190_3.out) | (with_reducible refine Kd.C_alloc ?_ _) | (with_reducible refine Kd.C_drewN ?_ _) | (with_reducible refine Kd.C_drew ?_) | exact HR190_3.out)) hb); have n5_ := Aside0.mk (below_step (by repeat (first | (with_reducible first | exact HB.out | apply below_alloc | apply pw_below_drewN | apply below_drew1 | refine below_set ?_ GE179.out) | exact HB.out)) hb); have n6_ := Aside0.mk (hbox); have n7_ := Aside0.mk ((by rw [hg]; exact (below_size (by repeat (first | (with_reducible first | exact HB.out | apply below_alloc | apply pw_below_drewN | apply below_drew1 | refine below_set ?_ GE179.out) | exact HB.out))) : w.heap.size ≤ gb191)); have n8_ := Aside0.mk ((by rw [hg]; exact (below_size (by repeat (first | (with_reducible first | exact HB.out | apply below_alloc | apply pw_below_drewN | apply below_drew1 | refine below_set ?_ GE179.out) | exact HB.out))) : w.heap.size ≤ gb191)); have n9_ := Aside0.mk ((by rw [hg]; exact Nat.ne_of_lt (blk_lt (g := gb179) (o := .cells #[.slice (some ad190) t180.length co23] 24 (0, 0)) (by (with_reducible repeat (first | refine blk_drewN ?_ _ | refine blk_drew ?_ | refine blk_alloc ?_ _)); exact BK179.out)) : gb179 ≠ gb191)); have n10_ := Aside0.mk ((by rw [hg]; exact Nat.ne_of_gt (blk_lt (g := gb179) (o := .cells #[.slice (some ad190) t180.length co23] 24 (0, 0)) (by (with_reducible repeat (first | refine blk_drewN ?_ _ | refine blk_drew ?_ | refine blk_alloc ?_ _)); exact BK179.out)) : gb191 ≠ gb179)); clear HO182; clear HO187; clear HL190_3; clear BK179; clear HR190_3; clear HB; have HO182 := n0_; have HO187 := n1_; have HL190_3 := n2_; have BK179 := n3_; have HR190_3 := n4_; have HB := n5_; have BK191 := n6_; have GW191 := n7_; have GE191 := n8_; have NB179_191 := n9_; have NB191_179 := n10_; clear n0_ n1_ n2_ n3_ n4_ n5_ n6_ n7_ n8_ n9_ n10_; clear hb hbox hg; have hnb30 := NB191_179.out; have hnc30 := NB179_191.out; have hcz31_0 : w29.cell? ⟨gb191, 0, none⟩ = some (.int .i64 0) := (blk_cell BK191.out 0).trans rfl; have hcz31_1 : w29.cell? ⟨gb191, 1, none⟩ = some (.int .i64 0) := (blk_cell BK191.out 1).trans rfl; have hcz31_2 : w29.cell? ⟨gb191, 2, none⟩ = some (.int .i64 0) := (blk_cell BK191.out 2).trans rfl; have hcz31_3 : w29.cell? ⟨gb191, 3, none⟩ = some (.slice none 0 0) := (blk_cell BK191.out 3).trans rfl; have hfz31_0 := blk_frozen BK191.out 0; have hfz31_1 := blk_frozen BK191.out 1; have hfz31_2 := blk_frozen BK191.out 2; have hfz31_3 := blk_frozen BK191.out 3; obtain ⟨Ao32, co32, eo32⟩ := Kd.R_slice HO187.out; subst eo32) | ((with_reducible refine gate_dst (N := 52) rfl ?_); (try (refine gate_guard (by rfl) ?_; dsimp only)); refine Kd.R_make (Kd.int .i64) _ 3 rfl (N := 52) rfl 28 _ _ rfl (t185.length : Int) rfl rfl Tryd.underlying28 (.int .i64 0) 8 info3 rfl (by decide) (by omega) 0 (ok := fun _ => True) (okp := fun _ => True) rfl (fun _ hk => hk) trivial (of_decide_eq_true (by first | (with_reducible assumption) | assumption)) (Nat.le_trans (Nat.mul_le_mul_right _ (of_decide_eq_true (by first | (with_reducible assumption) | assumption) : (t185.length : Int).toNat ≤ 35184372088832)) (by omega)) (Below.refl _ _) (Nat.le_refl _) ?_; intro v193 w33 ho34 hb hg_ hnew_; clear hg_ hnew_; (first | rw [← Ny192.out] at ho34 | (simp only [Int.reduceToNat] at ho34; rw [← Ny192.out] at ho34)); have n0_ := Aside0.mk (Kd.N_elder' (by (with_reducible repeat (first | apply Kd.N_alloc | apply Kd.N_drewN | apply Kd.N_drew)); exact (Kd.N_mono (Kd.N_far (p := ⟨gb191, 3, none⟩) (Kd.N_far (p := ⟨gb191, 2, none⟩) (Kd.N_far (p := ⟨gb191, 1, none⟩) (Kd.N_far (p := ⟨gb191, 0, none⟩) (Kd.N_mono HO182.out (fun k_ hk => (⟨hk, hk.2⟩ : _ ∧ k_ ≠ gb191))) (fun _ hk => hk.2) (.int .i64 ((rd_T34 t180 (ji14)).f0))) (fun _ hk => hk.2) (.int .i64 ((rd_T34 t180 (ji14)).f1))) (fun _ hk => hk.2) (.int .i64 ((rd_T34 t180 (ji14)).f2))) (fun _ hk => hk.2) (.slice A190_3 ((rd_T34 t180 (ji14)).f3).length c190_3)) (fun _ h_ => h_.1))) (Kd.R_base ho34) hb); have n1_ := Aside0.mk (Kd.R_elder' (by (with_reducible repeat (first | apply Kd.R_alloc | apply Kd.R_drewN | apply Kd.R_drew)); exact (Kd.R_mono (Kd.R_far (p := ⟨gb191, 3, none⟩) (Kd.R_far (p := ⟨gb191, 2, none⟩) (Kd.R_far (p := ⟨gb191, 1, none⟩) (Kd.R_far (p := ⟨gb191, 0, none⟩) (Kd.R_types HO187.out BK191.out (by decide)) (fun _ hk => hk.2) (.int .i64 ((rd_T34 t180 (ji14)).f0))) (fun _ hk => hk.2) (.int .i64 ((rd_T34 t180 (ji14)).f1))) (fun _ hk => hk.2) (.int .i64 ((rd_T34 t180 (ji14)).f2))) (fun _ hk => hk.2) (.slice A190_3 ((rd_T34 t180 (ji14)).f3).length c190_3)) (fun _ h_ => h_.1))) (Kd.R_base ho34) hb); have n2_ := Aside0.mk (Kd.V_elder' (by (with_reducible repeat (first | apply Kd.V_alloc | apply Kd.V_drewN | apply Kd.V_drew)); exact (Kd.V_mono (Kd.V_far (p := ⟨gb191, 3, none⟩) (Kd.V_far (p := ⟨gb191, 2, none⟩) (Kd.V_far (p := ⟨gb191, 1, none⟩) (Kd.V_far (p := ⟨gb191, 0, none⟩) (Kd.V_mono HL190_3.out (fun k_ hk => (⟨hk, hk.2⟩ : _ ∧ k_ ≠ gb191))) (fun _ hk => hk.2) (.int .i64 ((rd_T34 t180 (ji14)).f0))) (fun _ hk => hk.2) (.int .i64 ((rd_T34 t180 (ji14)).f1))) (fun _ hk => hk.2) (.int .i64 ((rd_T34 t180 (ji14)).f2))) (fun _ hk => hk.2) (.slice A190_3 ((rd_T34 t180 (ji14)).f3).length c190_3)) (fun _ h_ => h_.1))) (Kd.R_base ho34) hb); have n3_ := Aside0.mk (Kd.R_lower (Kd.R_new' ho34 (Kd.R_lt (by (with_reducible repeat (first | apply Kd.R_alloc | apply Kd.R_drewN | apply Kd.R_drew)); exact (Kd.R_mono (Kd.R_far (p := ⟨gb191, 3, none⟩) (Kd.R_far (p := ⟨gb191, 2, none⟩) (Kd.R_far (p := ⟨gb191, 1, none⟩) (Kd.R_far (p := ⟨gb191, 0, none⟩) (Kd.R_types HO187.out BK191.out (by decide)) (fun _ hk => hk.2) (.int .i64 ((rd_T34 t180 (ji14)).f0))) (fun _ hk => hk.2) (.int .i64 ((rd_T34 t180 (ji14)).f1))) (fun _ hk => hk.2) (.int .i64 ((rd_T34 t180 (ji14)).f2))) (fun _ hk => hk.2) (.slice A190_3 ((rd_T34 t180 (ji14)).f3).length c190_3)) (fun _ h_ => h_.1))))) (below_size (by repeat (first | (with_reducible first | exact HB.out | apply below_alloc | apply pw_below_drewN | apply below_drew1 | refine below_set ?_ GE179.out | refine below_set ?_ GE191.out) | exact HB.out)))); have n4_ := Aside0.mk (blk_below (g := gb179) (o := .cells #[.slice (some ad190) t180.length co23] 24 (0, 0)) (by (with_reducible repeat (first | refine blk_drewN ?_ _ | refine blk_drew ?_ | refine blk_alloc ?_ _)); refine blk_far ?_ NB179_191.out _; (with_reducible repeat (first | refine blk_drewN ?_ _ | refine blk_drew ?_ | refine blk_alloc ?_ _)); refine blk_far ?_ NB179_191.out _; (with_reducible repeat (first | refine blk_drewN ?_ _ | refine blk_drew ?_ | refine blk_alloc ?_ _)); refine blk_far ?_ NB179_191.out _; (with_reducible repeat (first | refine blk_drewN ?_ _ | refine blk_drew ?_ | refine blk_alloc ?_ _)); refine blk_far ?_ NB179_191.out _; (with_reducible repeat (first | refine blk_drewN ?_ _ | refine blk_drew ?_ | refine blk_alloc ?_ _)); exact BK179.out) hb); have n5_ := Aside0.mk (Kd.C_below ((Kd.V_reads' (by (with_reducible repeat (first | apply Kd.V_alloc | apply Kd.V_drewN | apply Kd.V_drew)); exact (Kd.V_mono (Kd.V_far (p := ⟨gb191, 3, none⟩) (Kd.V_far (p := ⟨gb191, 2, none⟩) (Kd.V_far (p := ⟨gb191, 1, none⟩) (Kd.V_far (p := ⟨gb191, 0, none⟩) (Kd.V_mono HL190_3.out (fun k_ hk => (⟨hk, hk.2⟩ : _ ∧ k_ ≠ gb191))) (fun _ hk => hk.2) (.int .i64 ((rd_T34 t180 (ji14)).f0))) (fun _ hk => hk.2) (.int .i64 ((rd_T34 t180 (ji14)).f1))) (fun _ hk => hk.2) (.int .i64 ((rd_T34 t180 (ji14)).f2))) (fun _ hk => hk.2) (.slice A190_3 ((rd_T34 t180 (ji14)).f3).length c190_3)) (fun _ h_ => h_.1)))).2.2) hb); have n6_ := Aside0.mk (blk_below (g := gb191) (o := .cells #[.int .i64 ((rd_T34 t180 (ji14)).f0), .int .i64 ((rd_T34 t180 (ji14)).f1), .int .i64 ((rd_T34 t180 (ji14)).f2), .slice A190_3 ((rd_T34 t180 (ji14)).f3).length c190_3] 34 (0, 0)) (by (with_reducible repeat (first | refine blk_drewN ?_ _ | refine blk_drew ?_ | refine blk_alloc ?_ _)); refine blk_put (cs := #[.int .i64 ((rd_T34 t180 (ji14)).f0), .int .i64 ((rd_T34 t180 (ji14)).f1), .int .i64 ((rd_T34 t180 (ji14)).f2), .slice none 0 0]) ?_ 3 _ rfl; (with_reducible repeat (first | refine blk_drewN ?_ _ | refine blk_drew ?_ | refine blk_alloc ?_ _)); refine blk_put (cs := #[.int .i64 ((rd_T34 t180 (ji14)).f0), .int .i64 ((rd_T34 t180 (ji14)).f1), .int .i64 0, .slice none 0 0]) ?_ 2 _ rfl; (with_reducible repeat (first | refine blk_drewN ?_ _ | refine blk_drew ?_ | refine blk_alloc ?_ _)); refine blk_put (cs := #[.int .i64 ((rd_T34 t180 (ji14)).f0), .int .i64 0, .int .i64 0, .slice none 0 0]) ?_ 1 _ rfl; (with_reducible repeat (first | refine blk_drewN ?_ _ | refine blk_drew ?_ | refine blk_alloc ?_ _)); refine blk_put (cs := #[.int .i64 0, .int .i64 0, .int .i64 0, .slice none 0 0]) ?_ 0 _ rfl; (with_reducible repeat (first | refine blk_drewN ?_ _ | refine blk_drew ?_ | refine blk_alloc ?_ _)); exact BK191.out) hb); have n7_ := Aside0.mk (below_step (by repeat (first | (with_reducible first | exact HB.out | apply below_alloc | apply pw_below_drewN | apply below_drew1 | refine below_set ?_ GE179.out | refine below_set ?_ GE191.out) | exact HB.out)) hb); clear HO182; clear HO187; clear HL190_3; clear BK179; clear HR190_3; clear BK191; clear HB; have HO182 := n0_; have HO187 := n1_; have HL190_3 := n2_; have HO194 := n3_; have BK179 := n4_; have HR190_3 := n5_; have BK191 := n6_; have HB := n7_; clear n0_ n1_ n2_ n3_ n4_ n5_ n6_ n7_; clear hb ho34; have hcz35_0 : w33.cell? ⟨gb179, 0, none⟩ = some (.slice (some ad190) t180.length co23) := (blk_cell BK179.out 0).trans rfl; have hfz35_0 := blk_frozen BK179.out 0)))
                go_loopg [56] k (fun kq v56 w' => ∃ (x6_1 : List Int) (x56_1 : Int), v56 = .int .i64 x56_1 ∧ Aside0 (cavillaw13_TreeWhole.l0 kq t185 x6_1 (t180.length : Int) x56_1 t180 ((rd_T34 t180 (ji14)).f0) ((rd_T34 t180 (ji14)).f1) ((rd_T34 t180 (ji14)).f2) ((rd_T34 t180 (ji14)).f3) = some r) ∧ Aside0 (kq ≤ k) ∧ Aside0 (Kd.R (Kd.int .i64) 3 w' w.heap.size (fun k_ => some k_ ≠ (v193 : Value).ownBlock) (.slice Ao32 t185.length co32) t185) ∧ Aside0 (Kd.R (Kd.int .i64) 3 w' w.heap.size (fun k_ => some k_ ≠ ((.slice Ao32 t185.length co32) : Value).ownBlock) v193 x6_1) ∧ Aside0 (Kd.N k34 34 w' w.heap.size (fun k_ => some k_ ≠ ((.slice Ao32 t185.length co32) : Value).ownBlock ∧ some k_ ≠ (v193 : Value).ownBlock ∧ k_ ≠ gb179 ∧ k_ ≠ gb191) (.slice (some ad190) t180.length co23) t180) ∧ Aside0 (w'.heap[gb179]? = some (.cells #[(.slice (some ad190) t180.length co23)] 24 (0, 0))) ∧ Aside0 (w'.heap[gb191]? = some (.cells #[.int .i64 ((rd_T34 t180 (ji14)).f0), .int .i64 ((rd_T34 t180 (ji14)).f1), .int .i64 ((rd_T34 t180 (ji14)).f2), (.slice A190_3 ((rd_T34 t180 (ji14)).f3).length c190_3)] 34 (0, 0))) ∧ Aside0 (Below w.heap.size w w'))
                case atStart => exact ⟨(y192), (0), (by first | rfl | (simp; done) | (simp [*]; done)), H', ⟨Nat.le_refl _⟩, ⟨by (with_reducible repeat (first | apply Kd.R_alloc | apply Kd.R_drewN | apply Kd.R_drew)); exact Kd.R_mono HO187.out (fun _ hk => hk.2)⟩, ⟨by (with_reducible repeat (first | apply Kd.R_alloc | apply Kd.R_drewN | apply Kd.R_drew)); exact Kd.R_mono HO194.out (fun _ hk => hk.2)⟩, ⟨by (with_reducible repeat (first | apply Kd.N_alloc | apply Kd.N_drewN | apply Kd.N_drew)); exact Kd.N_mono HO182.out (fun _ hk => ⟨hk.1.1.2, ⟨hk.2, ⟨hk.1.1.1, hk.1.2⟩⟩⟩)⟩, ⟨by (with_reducible repeat (first | refine blk_drewN ?_ _ | refine blk_drew ?_ | refine blk_alloc ?_ _)); exact BK179.out⟩, ⟨by (with_reducible repeat (first | refine blk_drewN ?_ _ | refine blk_drew ?_ | refine blk_alloc ?_ _)); exact BK191.out⟩, ⟨by repeat (first | (with_reducible first | exact HB.out | apply below_alloc | apply pw_below_drewN | apply below_drew1 | refine below_set ?_ GE179.out | refine below_set ?_ GE191.out) | exact HB.out)⟩⟩
                case round =>
                  clear H'
                  try clear c1
                  try clear p1
                  try clear q1
                  try clear hx1
                  try clear p2
                  try clear c3
                  try clear c4
                  try clear p6
                  try clear c15
                  try clear c15b0
                  try clear c16
                  try clear c16b0
                  try clear c17
                  try clear c17b0
                  try clear c17b1
                  try clear c18
                  try clear c18b0
                  try clear c18b1
                  try clear q18
                  try clear c19
                  try clear c19b0
                  try clear c19b1
                  try clear p19
                  try clear q19
                  try clear hx19
                  try clear c30
                  try clear hcz10_0
                  try clear hcz21_0
                  try clear hcz24_0
                  try clear hcz26_0
                  try clear hcz28_0
                  try clear hcz31_0
                  try clear hcz31_1
                  try clear hcz31_2
                  try clear hcz31_3
                  try clear hcz35_0
                  try clear hcz7_0
                  try clear hfz10_0
                  try clear hfz21_0
                  try clear hfz24_0
                  try clear hfz26_0
                  try clear hfz28_0
                  try clear hfz31_0
                  try clear hfz31_1
                  try clear hfz31_2
                  try clear hfz31_3
                  try clear hfz35_0
                  try clear hfz7_0
                  try clear hx190_0
                  try clear hx190_1
                  try clear hx190_2
                  try clear hx190_3
                  try clear p190
                  try clear q189
                  try clear q190
                  obtain ⟨x6_1, x56_1, rfl, HA, HK1, HO_3, HO_6, HO_180000, BK179, BK191, HB⟩ := hrel
                  cases gk with
                  | zero => exact absurd HA.out (by simp [cavillaw13_TreeWhole.l0])
                  | succ k1 =>
                    have H := HA.out
                    clear HA
                    simp only [cavillaw13_TreeWhole.l0] at H
                    by_cases c36 : x56_1 < (t180.length : Int)
                    · rw [if_pos c36] at H
                      have c36b0 : decide (x56_1 < (t180.length : Int)) = true := decide_eq_true c36
                      clear c36
                      replace H := Option.bind_eq_some_iff.mp H
                      obtain ⟨⟨t195, t198⟩, A370, H⟩ := H
                      replace H : (if t198.isNone = true then (cavillaw13_TreeWhole.l1 k1 t185 x6_1 x56_1 (t180.length : Int) x56_1 t195 (t195.length : Int) 0 t180 ((rd_T34 t180 (ji14)).f0) ((rd_T34 t180 (ji14)).f1) ((rd_T34 t180 (ji14)).f2) ((rd_T34 t180 (ji14)).f3)) else (some false)) = some r := H
                      have A37 := Aside0.mk A370
                      clear A370
                      rcases t198 with _ | q199
                      · have H1 : (cavillaw13_TreeWhole.l1 k1 t185 x6_1 x56_1 (t180.length : Int) x56_1 t195 (t195.length : Int) 0 t180 ((rd_T34 t180 (ji14)).f0) ((rd_T34 t180 (ji14)).f1) ((rd_T34 t180 (ji14)).f2) ((rd_T34 t180 (ji14)).f3)) = some r := by rw [if_pos (show (none : Option Er).isNone = true by rfl)] at H; exact H
                        clear H
                        have H := H1
                        clear H1
                        try simp only [errW_none, errW_some, erT_no, erV_no, erT_at, erV_at]
                        have H' := Aside0.mk H
                        clear H
                        have hnb38 := NB179_191.out
                        have hnc38 := NB191_179.out
                        have hcz39_0 : wr.cell? ⟨gb179, 0, none⟩ = some (.slice (some ad190) t180.length co23) := (blk_cell BK179.out 0).trans rfl
                        have hfz39_0 := blk_frozen BK179.out 0
                        go_wp2_with (first | (go_at_call 13; (with_reducible refine (tree_Own.calls k1 _ _ t180 x56_1 t195 none _ ?side1 ?side2 A37.out).mono ?_); (case side1 => repeat (first | exact (Kd.N_reads' HO_180000.out).2.2 | (with_reducible refine Kd.C_alloc ?_ _) | (with_reducible refine Kd.C_drewN ?_ _) | (with_reducible refine Kd.C_drew ?_))); (case side2 => exact (Kd.N_reads' HO_180000.out).2.1); rintro e w40 ⟨v196, rfl, ho0, hb⟩; have n0_ := Aside0.mk (Kd.R_elder' (by (with_reducible repeat (first | apply Kd.R_alloc | apply Kd.R_drewN | apply Kd.R_drew)); exact HO_3.out) (Kd.R_base ho0) hb); have n1_ := Aside0.mk (Kd.R_elder' (by (with_reducible repeat (first | apply Kd.R_alloc | apply Kd.R_drewN | apply Kd.R_drew)); exact HO_6.out) (Kd.R_base ho0) hb); have n2_ := Aside0.mk (Kd.N_elder' (by (with_reducible repeat (first | apply Kd.N_alloc | apply Kd.N_drewN | apply Kd.N_drew)); exact HO_180000.out) (Kd.R_base ho0) hb); have n3_ := Aside0.mk (Kd.R_lower (Kd.R_new' (Kd.R_new' ho0 (Kd.R_lt (by (with_reducible repeat (first | apply Kd.R_alloc | apply Kd.R_drewN | apply Kd.R_drew)); exact HO_3.out))) (Kd.R_lt (by (with_reducible repeat (first | apply Kd.R_alloc | apply Kd.R_drewN | apply Kd.R_drew)); exact HO_6.out))) (below_size (by repeat (first | (with_reducible first | exact HB.out | apply below_alloc | apply pw_below_drewN | apply below_drew1 | refine below_set ?_ GE179.out | refine below_set ?_ GE191.out) | exact HB.out)))); have n4_ := Aside0.mk (blk_below (g := gb179) (o := .cells #[.slice (some ad190) t180.length co23] 24 (0, 0)) (by (with_reducible repeat (first | refine blk_drewN ?_ _ | refine blk_drew ?_ | refine blk_alloc ?_ _)); exact BK179.out) hb); have n5_ := Aside0.mk (blk_below (g := gb191) (o := .cells #[.int .i64 ((rd_T34 t180 (ji14)).f0), .int .i64 ((rd_T34 t180 (ji14)).f1), .int .i64 ((rd_T34 t180 (ji14)).f2), .slice A190_3 ((rd_T34 t180 (ji14)).f3).length c190_3] 34 (0, 0)) (by (with_reducible repeat (first | refine blk_drewN ?_ _ | refine blk_drew ?_ | refine blk_alloc ?_ _)); exact BK191.out) hb); have n6_ := Aside0.mk (below_step (by repeat (first | (with_reducible first | exact HB.out | apply below_alloc | apply pw_below_drewN | apply below_drew1 | refine below_set ?_ GE179.out | refine below_set ?_ GE191.out) | exact HB.out)) hb); clear HO_3; clear HO_6; clear HO_180000; clear BK179; clear BK191; clear HB; have HO_3 := n0_; have HO_6 := n1_; have HO_180000 := n2_; have HO197 := n3_; have BK179 := n4_; have BK191 := n5_; have HB := n6_; clear n0_ n1_ n2_ n3_ n4_ n5_ n6_; (try clear hb); (try clear hb2); (try clear hk); (try clear hi); (try clear ho0); (try simp only [errW_none, errW_some, erT_no, erV_no, erT_at, erV_at]); obtain ⟨Ao41, co41, eo41⟩ := Kd.R_slice HO197.out; subst eo41))
                        repeat (go_quiet (first | (go_at_call 13; (with_reducible refine (tree_Own.calls k1 _ _ t180 x56_1 t195 none _ ?side1 ?side2 A37.out).mono ?_); (case side1 => repeat (first | exact (Kd.N_reads' HO_180000.out).2.2 | (with_reducible refine Kd.C_alloc ?_ _) | (with_reducible refine Kd.C_drewN ?_ _) | (with_reducible refine Kd.C_drew ?_))); (case side2 => exact (Kd.N_reads' HO_180000.out).2.1); rintro e w40 ⟨v196, rfl, ho0, hb⟩; have n0_ := Aside0.mk (Kd.R_elder' (by (with_reducible repeat (first | apply Kd.R_alloc | apply Kd.R_drewN | apply Kd.R_drew)); exact HO_3.out) (Kd.R_base ho0) hb); have n1_ := Aside0.mk (Kd.R_elder' (by (with_reducible repeat (first | apply Kd.R_alloc | apply Kd.R_drewN | apply Kd.R_drew)); exact HO_6.out) (Kd.R_base ho0) hb); have n2_ := Aside0.mk (Kd.N_elder' (by (with_reducible repeat (first | apply Kd.N_alloc | apply Kd.N_drewN | apply Kd.N_drew)); exact HO_180000.out) (Kd.R_base ho0) hb); have n3_ := Aside0.mk (Kd.R_lower (Kd.R_new' (Kd.R_new' ho0 (Kd.R_lt (by (with_reducible repeat (first | apply Kd.R_alloc | apply Kd.R_drewN | apply Kd.R_drew)); exact HO_3.out))) (Kd.R_lt (by (with_reducible repeat (first | apply Kd.R_alloc | apply Kd.R_drewN | apply Kd.R_drew)); exact HO_6.out))) (below_size (by repeat (first | (with_reducible first | exact HB.out | apply below_alloc | apply pw_below_drewN | apply below_drew1 | refine below_set ?_ GE179.out | refine below_set ?_ GE191.out) | exact HB.out)))); have n4_ := Aside0.mk (blk_below (g := gb179) (o := .cells #[.slice (some ad190) t180.length co23] 24 (0, 0)) (by (with_reducible repeat (first | refine blk_drewN ?_ _ | refine blk_drew ?_ | refine blk_alloc ?_ _)); exact BK179.out) hb); have n5_ := Aside0.mk (blk_below (g := gb191) (o := .cells #[.int .i64 ((rd_T34 t180 (ji14)).f0), .int .i64 ((rd_T34 t180 (ji14)).f1), .int .i64 ((rd_T34 t180 (ji14)).f2), .slice A190_3 ((rd_T34 t180 (ji14)).f3).length c190_3] 34 (0, 0)) (by (with_reducible repeat (first | refine blk_drewN ?_ _ | refine blk_drew ?_ | refine blk_alloc ?_ _)); exact BK191.out) hb); have n6_ := Aside0.mk (below_step (by repeat (first | (with_reducible first | exact HB.out | apply below_alloc | apply pw_below_drewN | apply below_drew1 | refine below_set ?_ GE179.out | refine below_set ?_ GE191.out) | exact HB.out)) hb); clear HO_3; clear HO_6; clear HO_180000; clear BK179; clear BK191; clear HB; have HO_3 := n0_; have HO_6 := n1_; have HO_180000 := n2_; have HO197 := n3_; have BK179 := n4_; have BK191 := n5_; have HB := n6_; clear n0_ n1_ n2_ n3_ n4_ n5_ n6_; (try clear hb); (try clear hb2); (try clear hk); (try clear hi); (try clear ho0); (try simp only [errW_none, errW_some, erT_no, erV_no, erT_at, erV_at]); obtain ⟨Ao41, co41, eo41⟩ := Kd.R_slice HO197.out; subst eo41)); try go_wp2_with (first | (go_at_call 13; (with_reducible refine (tree_Own.calls k1 _ _ t180 x56_1 t195 none _ ?side1 ?side2 A37.out).mono ?_); (case side1 => repeat (first | exact (Kd.N_reads' HO_180000.out).2.2 | (with_reducible refine Kd.C_alloc ?_ _) | (with_reducible refine Kd.C_drewN ?_ _) | (with_reducible refine Kd.C_drew ?_))); (case side2 => exact (Kd.N_reads' HO_180000.out).2.1); rintro e w40 ⟨v196, rfl, ho0, hb⟩; have n0_ := Aside0.mk (Kd.R_elder' (by (with_reducible repeat (first | apply Kd.R_alloc | apply Kd.R_drewN | apply Kd.R_drew)); exact HO_3.out) (Kd.R_base ho0) hb); have n1_ := Aside0.mk (Kd.R_elder' (by (with_reducible repeat (first | apply Kd.R_alloc | apply Kd.R_drewN | apply Kd.R_drew)); exact HO_6.out) (Kd.R_base ho0) hb); have n2_ := Aside0.mk (Kd.N_elder' (by (with_reducible repeat (first | apply Kd.N_alloc | apply Kd.N_drewN | apply Kd.N_drew)); exact HO_180000.out) (Kd.R_base ho0) hb); have n3_ := Aside0.mk (Kd.R_lower (Kd.R_new' (Kd.R_new' ho0 (Kd.R_lt (by (with_reducible repeat (first | apply Kd.R_alloc | apply Kd.R_drewN | apply Kd.R_drew)); exact HO_3.out))) (Kd.R_lt (by (with_reducible repeat (first | apply Kd.R_alloc | apply Kd.R_drewN | apply Kd.R_drew)); exact HO_6.out))) (below_size (by repeat (first | (with_reducible first | exact HB.out | apply below_alloc | apply pw_below_drewN | apply below_drew1 | refine below_set ?_ GE179.out | refine below_set ?_ GE191.out) | exact HB.out)))); have n4_ := Aside0.mk (blk_below (g := gb179) (o := .cells #[.slice (some ad190) t180.length co23] 24 (0, 0)) (by (with_reducible repeat (first | refine blk_drewN ?_ _ | refine blk_drew ?_ | refine blk_alloc ?_ _)); exact BK179.out) hb); have n5_ := Aside0.mk (blk_below (g := gb191) (o := .cells #[.int .i64 ((rd_T34 t180 (ji14)).f0), .int .i64 ((rd_T34 t180 (ji14)).f1), .int .i64 ((rd_T34 t180 (ji14)).f2), .slice A190_3 ((rd_T34 t180 (ji14)).f3).length c190_3] 34 (0, 0)) (by (with_reducible repeat (first | refine blk_drewN ?_ _ | refine blk_drew ?_ | refine blk_alloc ?_ _)); exact BK191.out) hb); have n6_ := Aside0.mk (below_step (by repeat (first | (with_reducible first | exact HB.out | apply below_alloc | apply pw_below_drewN | apply below_drew1 | refine below_set ?_ GE179.out | refine below_set ?_ GE191.out) | exact HB.out)) hb); clear HO_3; clear HO_6; clear HO_180000; clear BK179; clear BK191; clear HB; have HO_3 := n0_; have HO_6 := n1_; have HO_180000 := n2_; have HO197 := n3_; have BK179 := n4_; have BK191 := n5_; have HB := n6_; clear n0_ n1_ n2_ n3_ n4_ n5_ n6_; (try clear hb); (try clear hb2); (try clear hk); (try clear hi); (try clear ho0); (try simp only [errW_none, errW_some, erT_no, erV_no, erT_at, erV_at]); obtain ⟨Ao41, co41, eo41⟩ := Kd.R_slice HO197.out; subst eo41)))
                        go_loopg [69] k1 (fun kq v69 w' => ∃ (x6_2 : List Int) (x69_2 : Int), v69 = .int .i64 x69_2 ∧ Aside0 (cavillaw13_TreeWhole.l1 kq t185 x6_2 x56_1 (t180.length : Int) x56_1 t195 (t195.length : Int) x69_2 t180 ((rd_T34 t180 (ji14)).f0) ((rd_T34 t180 (ji14)).f1) ((rd_T34 t180 (ji14)).f2) ((rd_T34 t180 (ji14)).f3) = some r) ∧ Aside0 (kq ≤ k1) ∧ Aside0 (Kd.R (Kd.int .i64) 3 w' w.heap.size (fun k_ => some k_ ≠ (v193 : Value).ownBlock ∧ some k_ ≠ ((.slice Ao41 t195.length co41) : Value).ownBlock) (.slice Ao32 t185.length co32) t185) ∧ Aside0 (Kd.R (Kd.int .i64) 3 w' w.heap.size (fun k_ => some k_ ≠ ((.slice Ao32 t185.length co32) : Value).ownBlock ∧ some k_ ≠ ((.slice Ao41 t195.length co41) : Value).ownBlock) v193 x6_2) ∧ Aside0 (Kd.R (Kd.int .i64) 3 w' w.heap.size (fun k_ => some k_ ≠ ((.slice Ao32 t185.length co32) : Value).ownBlock ∧ some k_ ≠ (v193 : Value).ownBlock) (.slice Ao41 t195.length co41) t195) ∧ Aside0 (Kd.N k34 34 w' w.heap.size (fun k_ => some k_ ≠ ((.slice Ao32 t185.length co32) : Value).ownBlock ∧ some k_ ≠ (v193 : Value).ownBlock ∧ some k_ ≠ ((.slice Ao41 t195.length co41) : Value).ownBlock ∧ k_ ≠ gb179 ∧ k_ ≠ gb191) (.slice (some ad190) t180.length co23) t180) ∧ Aside0 (w'.heap[gb179]? = some (.cells #[(.slice (some ad190) t180.length co23)] 24 (0, 0))) ∧ Aside0 (w'.heap[gb191]? = some (.cells #[.int .i64 ((rd_T34 t180 (ji14)).f0), .int .i64 ((rd_T34 t180 (ji14)).f1), .int .i64 ((rd_T34 t180 (ji14)).f2), (.slice A190_3 ((rd_T34 t180 (ji14)).f3).length c190_3)] 34 (0, 0))) ∧ Aside0 (Below w.heap.size w w'))
                        case atStart => exact ⟨(x6_1), (0), (by first | rfl | (simp; done) | (simp [*]; done)), H', ⟨Nat.le_refl _⟩, ⟨by (with_reducible repeat (first | apply Kd.R_alloc | apply Kd.R_drewN | apply Kd.R_drew)); exact HO_3.out⟩, ⟨by (with_reducible repeat (first | apply Kd.R_alloc | apply Kd.R_drewN | apply Kd.R_drew)); exact HO_6.out⟩, ⟨by (with_reducible repeat (first | apply Kd.R_alloc | apply Kd.R_drewN | apply Kd.R_drew)); exact Kd.R_mono HO197.out (fun _ hk => ⟨hk.1.2, hk.2⟩)⟩, ⟨by (with_reducible repeat (first | apply Kd.N_alloc | apply Kd.N_drewN | apply Kd.N_drew)); exact Kd.N_mono HO_180000.out (fun _ hk => ⟨hk.1.1, ⟨hk.1.2.1, ⟨hk.2, ⟨hk.1.2.2.1, hk.1.2.2.2⟩⟩⟩⟩)⟩, ⟨by (with_reducible repeat (first | refine blk_drewN ?_ _ | refine blk_drew ?_ | refine blk_alloc ?_ _)); exact BK179.out⟩, ⟨by (with_reducible repeat (first | refine blk_drewN ?_ _ | refine blk_drew ?_ | refine blk_alloc ?_ _)); exact BK191.out⟩, ⟨by repeat (first | (with_reducible first | exact HB.out | apply below_alloc | apply pw_below_drewN | apply below_drew1 | refine below_set ?_ GE179.out | refine below_set ?_ GE191.out) | exact HB.out)⟩⟩
                        case round =>
                          clear H'
                          try clear c1
                          try clear p1
                          try clear q1
                          try clear hx1
                          try clear p2
                          try clear c3
                          try clear c4
                          try clear p6
                          try clear c15
                          try clear c15b0
                          try clear c16
                          try clear c16b0
                          try clear c17
                          try clear c17b0
                          try clear c17b1
                          try clear c18
                          try clear c18b0
                          try clear c18b1
                          try clear q18
                          try clear c19
                          try clear c19b0
                          try clear c19b1
                          try clear p19
                          try clear q19
                          try clear hx19
                          try clear c30
                          try clear c36
                          try clear c36b0
                          try clear c38
                          try clear hcz10_0
                          try clear hcz21_0
                          try clear hcz24_0
                          try clear hcz26_0
                          try clear hcz28_0
                          try clear hcz31_0
                          try clear hcz31_1
                          try clear hcz31_2
                          try clear hcz31_3
                          try clear hcz35_0
                          try clear hcz39_0
                          try clear hcz7_0
                          try clear hfz10_0
                          try clear hfz21_0
                          try clear hfz24_0
                          try clear hfz26_0
                          try clear hfz28_0
                          try clear hfz31_0
                          try clear hfz31_1
                          try clear hfz31_2
                          try clear hfz31_3
                          try clear hfz35_0
                          try clear hfz39_0
                          try clear hfz7_0
                          try clear hx190_0
                          try clear hx190_1
                          try clear hx190_2
                          try clear hx190_3
                          try clear p1
                          try clear p19
                          try clear p190
                          try clear p2
                          try clear p6
                          try clear q1
                          try clear q18
                          try clear q189
                          try clear q19
                          try clear q190
                          try clear q199
                          obtain ⟨x6_2, x69_2, rfl, HA, HK2, HO_3, HO_6, HO_67, HO_180000, BK179, BK191, HB⟩ := hrel
                          cases gk with
                          | zero => exact absurd HA.out (by simp [cavillaw13_TreeWhole.l1])
                          | succ k2 =>
                            have H := HA.out
                            clear HA
                            simp only [cavillaw13_TreeWhole.l1] at H
                            by_cases c42 : x69_2 < (t195.length : Int)
                            · rw [if_pos c42] at H
                              have c42b0 : decide (x69_2 < (t195.length : Int)) = true := decide_eq_true c42
                              clear c42
                              by_cases c43 : 0 ≤ x69_2
                              · rw [if_pos c43] at H
                                have c43b0 : decide (0 ≤ x69_2) = true := decide_eq_true c43
                                clear c43
                                by_cases c44 : x69_2 < (t195.length : Int)
                                · rw [if_pos c44] at H
                                  have c44b0 : decide (x69_2 < (t195.length : Int)) = true := decide_eq_true c44
                                  clear c44
                                  by_cases c45 : (rd t195 x69_2) < 0
                                  · rw [if_pos c45] at H
                                    have c45b0 : decide ((rd t195 x69_2) < 0) = true := decide_eq_true c45
                                    clear c45
                                    obtain rfl := Option.some.inj H
                                    have p200 : 0 ≤ (x69_2 : Int) := of_decide_eq_true (by first | (with_reducible assumption) | assumption)
                                    have q200 : x69_2 < (t195.length : Int) := of_decide_eq_true (by first | (with_reducible assumption) | assumption)
                                    obtain ⟨ad200, e200, hx200_0⟩ := Kd.at_int (Kd.R_reads' HO_67.out).2.2 x69_2 p200 q200
                                    cases e200
                                    replace p200 := eq_true p200
                                    replace q200 := eq_true q200
                                    go_wp2
                                    repeat (go_quiet (fail); try go_wp2)
                                    go_ret
                                    exact ⟨by first | rfl | (simp [errW_none, errW_some, erT_no, erV_no, erT_at, erV_at] <;> rfl) | (simp only [← hji14]; first | rfl | (simp [errW_none, errW_some, erT_no, erV_no, erT_at, erV_at] <;> rfl)) | (simp [*, errW_none, errW_some, erT_no, erV_no, erT_at, erV_at] <;> rfl), by repeat (first | (with_reducible first | exact HB.out | apply below_alloc | apply pw_below_drewN | apply below_drew1 | refine below_set ?_ GE179.out | refine below_set ?_ GE191.out) | exact HB.out)⟩
                                  · rw [if_neg c45] at H
                                    have c45b0 : decide ((rd t195 x69_2) < 0) = false := decide_eq_false c45
                                    clear c45
                                    by_cases c46 : (rd t195 x69_2) ≥ (t185.length : Int)
                                    · rw [if_pos c46] at H
                                      have c46b0 : decide ((t185.length : Int) ≤ (rd t195 x69_2)) = true := decide_eq_true c46
                                      clear c46
                                      obtain rfl := Option.some.inj H
                                      have p200 : 0 ≤ (x69_2 : Int) := of_decide_eq_true (by first | (with_reducible assumption) | assumption)
                                      have q200 : x69_2 < (t195.length : Int) := of_decide_eq_true (by first | (with_reducible assumption) | assumption)
                                      obtain ⟨ad200, e200, hx200_0⟩ := Kd.at_int (Kd.R_reads' HO_67.out).2.2 x69_2 p200 q200
                                      cases e200
                                      replace p200 := eq_true p200
                                      replace q200 := eq_true q200
                                      go_wp2
                                      repeat (go_quiet (fail); try go_wp2)
                                      go_ret
                                      exact ⟨by first | rfl | (simp [errW_none, errW_some, erT_no, erV_no, erT_at, erV_at] <;> rfl) | (simp only [← hji14]; first | rfl | (simp [errW_none, errW_some, erT_no, erV_no, erT_at, erV_at] <;> rfl)) | (simp [*, errW_none, errW_some, erT_no, erV_no, erT_at, erV_at] <;> rfl), by repeat (first | (with_reducible first | exact HB.out | apply below_alloc | apply pw_below_drewN | apply below_drew1 | refine below_set ?_ GE179.out | refine below_set ?_ GE191.out) | exact HB.out)⟩
                                    · rw [if_neg c46] at H
                                      have c46b0 : decide ((t185.length : Int) ≤ (rd t195 x69_2)) = false := decide_eq_false c46
                                      clear c46
                                      by_cases c47 : 0 ≤ (rd t195 x69_2)
                                      · rw [if_pos c47] at H
                                        have c47b0 : decide (0 ≤ (rd t195 x69_2)) = true := decide_eq_true c47
                                        clear c47
                                        by_cases c48 : (rd t195 x69_2) < (t185.length : Int)
                                        · rw [if_pos c48] at H
                                          have c48b0 : decide ((rd t195 x69_2) < (t185.length : Int)) = true := decide_eq_true c48
                                          clear c48
                                          by_cases c49 : (rd t185 (rd t195 x69_2)) = x56_1
                                          · rw [if_pos c49] at H
                                            have c49b0 : ((rd t185 (rd t195 x69_2)) == x56_1) = true := beq_iff_eq.mpr c49
                                            have c49b1 : ((rd t185 (rd t195 x69_2)) != x56_1) = false := bne_eq_false_iff_eq.mpr c49
                                            clear c49
                                            by_cases c50 : (rd t195 x69_2) < (x6_2.length : Int)
                                            · rw [if_pos c50] at H
                                              have c50b0 : decide ((rd t195 x69_2) < (x6_2.length : Int)) = true := decide_eq_true c50
                                              clear c50
                                              obtain ⟨y203, hy203⟩ : ∃ y_ : List Int, y_ = (x6_2.set ((rd t195 x69_2) : Int).toNat (wrap64 ((rd x6_2 (rd t195 x69_2)) + 1))) := ⟨_, rfl⟩
                                              replace H : (cavillaw13_TreeWhole.l1 k2 t185 y203 x56_1 (t180.length : Int) x56_1 t195 (t195.length : Int) (wrap64 (x69_2 + 1)) t180 ((rd_T34 t180 (ji14)).f0) ((rd_T34 t180 (ji14)).f1) ((rd_T34 t180 (ji14)).f2) ((rd_T34 t180 (ji14)).f3)) = some r := by first | (rw [hy203]; with_reducible exact H) | (have H2_ := (Option.bind_some _ _).symm.trans H; rw [hy203]; with_reducible exact H2_) | (have H2_ := (Option.bind_some _ _).symm.trans H; with_reducible exact H2_) | with_reducible exact H | (rw [hy203]; exact H) | exact H
                                              have Ny203 := Aside0.mk hy203
                                              clear hy203
                                              have H' := Aside0.mk H
                                              clear H
                                              have p200 : 0 ≤ (x69_2 : Int) := of_decide_eq_true (by first | (with_reducible assumption) | assumption)
                                              have q200 : x69_2 < (t195.length : Int) := of_decide_eq_true (by first | (with_reducible assumption) | assumption)
                                              obtain ⟨ad200, e200, hx200_0⟩ := Kd.at_int (Kd.R_reads' HO_67.out).2.2 x69_2 p200 q200
                                              cases e200
                                              replace p200 := eq_true p200
                                              replace q200 := eq_true q200
                                              have p201 : 0 ≤ ((rd t195 x69_2) : Int) := of_decide_eq_true (by first | (with_reducible assumption) | assumption)
                                              have q201 : (rd t195 x69_2) < (t185.length : Int) := of_decide_eq_true (by first | (with_reducible assumption) | assumption)
                                              obtain ⟨ad201, e201, hx201_0⟩ := Kd.at_int (Kd.R_reads' HO_3.out).2.2 (rd t195 x69_2) p201 q201
                                              cases e201
                                              replace p201 := eq_true p201
                                              replace q201 := eq_true q201
                                              obtain ⟨Ao52, co52, eo52⟩ := Kd.R_slice HO_6.out
                                              subst eo52
                                              have p202 : 0 ≤ ((rd t195 x69_2) : Int) := of_decide_eq_true (by first | (with_reducible assumption) | assumption)
                                              have q202 : (rd t195 x69_2) < (x6_2.length : Int) := of_decide_eq_true (by first | (with_reducible assumption) | assumption)
                                              obtain ⟨ad202, e202, hx202_0⟩ := Kd.at_int (Kd.R_reads' HO_6.out).2.2 (rd t195 x69_2) p202 q202
                                              cases e202
                                              replace p202 := eq_true p202
                                              replace q202 := eq_true q202
                                              have p51 : 0 ≤ ((rd t195 x69_2) : Int) := of_decide_eq_true (by first | (with_reducible assumption) | assumption)
                                              have q51 : ((rd t195 x69_2) : Int) < ((x6_2.length : Int) : Int) := of_decide_eq_true (by first | (with_reducible assumption) | assumption)
                                              obtain ⟨go51, co51, eo51, gb51, gl51, cl51, HG51⟩ := Kd.R_form HO_6.out (by omega)
                                              (first | cases eo51 | (injection eo51 with ea_ en_ ec_; (first | subst ea_ | (injection ea_ with ea_; subst ea_)); subst ec_; clear en_))
                                              have GB51 := Aside0.mk gb51
                                              have GG51 := Aside0.mk HG51
                                              clear gb51 gl51 HG51
                                              (first | simp only [add_plain] at hx202_0 | skip)
                                              obtain ⟨hx51_0, hf51_0⟩ := Kd.R_celln 0 HO_6.out ((rd t195 x69_2) : Int) p51 q51
                                              replace p51 := eq_true p51
                                              replace q51 := eq_true q51
                                              have HP53 := Kd.R_putg HO_6.out ((rd t195 x69_2) : Int) (wrap64 ((rd x6_2 (rd t195 x69_2)) + 1))
                                              go_wp2_with (first | ((with_reducible refine gate_store (t := 3) (p := 94) rfl ?_); (try (rw [drewN_self wr]; generalize hq_ : World.drewN wr _ = wr; have n0_ := Aside0.mk (Kd.R_at hq_ HO_3.out); have n1_ := Aside0.mk (Kd.R_at hq_ HO_6.out); have n2_ := Aside0.mk (Kd.R_at hq_ HO_67.out); have n3_ := Aside0.mk (Kd.N_at hq_ HO_180000.out); have n4_ := Aside0.mk (blk_at hq_ BK179.out); have n5_ := Aside0.mk (blk_at hq_ BK191.out); have n6_ := Aside0.mk (below_at hq_ HB.out); clear hq_ HO_3 HO_6 HO_67 HO_180000 BK179 BK191 HB; have HO_3 := n0_; have HO_6 := n1_; have HO_67 := n2_; have HO_180000 := n3_; have BK179 := n4_; have BK191 := n5_; have HB := n6_; clear n0_ n1_ n2_ n3_ n4_ n5_ n6_; (try (have HP53 := Kd.R_putg HO_6.out ((rd t195 x69_2) : Int) (wrap64 ((rd x6_2 (rd t195 x69_2)) + 1)))))); refine store_event (t := 3) (p := 94) (v := ?vo_w54) (w1 := (wr.setCell ⟨go51, ((rd t195 x69_2) : Int).toNat, none⟩ (.int .i64 (wrap64 ((rd x6_2 (rd t195 x69_2)) + 1))))) ?hg ?ho ?hn ?hr ?_; (case ho => rfl); (case hg => rfl); (case hn => rfl); (case hr => first | (go_simp; done) | (go_simp; rfl)); intro w54 hw; have hg : wr.grownBy w54 (some go51) := (by rw [hw]; exact HP53.2); have hp_ : Kd.R (Kd.int .i64) 3 w54 w.heap.size (fun k_ => some k_ ≠ (.slice (some ad201) t185.length co32 : Value).ownBlock ∧ some k_ ≠ (.slice (some ad200) t195.length co41 : Value).ownBlock) (.slice (some ⟨go51, 0, none⟩) x6_2.length co52) y203 := (by rw [hw, Ny203.out]; exact HP53.1); clear HP53; have n0_ := Aside0.mk (Kd.R_after (v := (.slice (some ⟨go51, 0, none⟩) x6_2.length co52)) (v1 := (.slice (some ⟨go51, 0, none⟩) x6_2.length co52)) (ok := (fun k_ => some k_ ≠ (.slice (some ad200) t195.length co41 : Value).ownBlock)) (by (with_reducible repeat (first | apply Kd.R_alloc | apply Kd.R_drewN | apply Kd.R_drew)); exact Kd.R_mono HO_3.out (fun _ hk => ⟨hk.2, hk.1⟩)) hg (.inl rfl)); have n1_ := Aside0.mk (hp_); have n2_ := Aside0.mk (Kd.R_after (v := (.slice (some ⟨go51, 0, none⟩) x6_2.length co52)) (v1 := (.slice (some ⟨go51, 0, none⟩) x6_2.length co52)) (ok := (fun k_ => some k_ ≠ (.slice (some ad201) t185.length co32 : Value).ownBlock)) (by (with_reducible repeat (first | apply Kd.R_alloc | apply Kd.R_drewN | apply Kd.R_drew)); exact HO_67.out) hg (.inl rfl)); have n3_ := Aside0.mk (Kd.N_afterv (v := (.slice (some ⟨go51, 0, none⟩) x6_2.length co52)) (v1 := (.slice (some ⟨go51, 0, none⟩) x6_2.length co52)) (ok := (fun k_ => some k_ ≠ (.slice (some ad201) t185.length co32 : Value).ownBlock ∧ some k_ ≠ (.slice (some ad200) t195.length co41 : Value).ownBlock ∧ k_ ≠ gb179 ∧ k_ ≠ gb191)) (by (with_reducible repeat (first | apply Kd.N_alloc | apply Kd.N_drewN | apply Kd.N_drew)); exact Kd.N_mono HO_180000.out (fun _ hk => ⟨⟨hk.1, ⟨hk.2.2.1, ⟨hk.2.2.2.1, hk.2.2.2.2⟩⟩⟩, hk.2.1⟩)) hg (.inl rfl)); have n4_ := Aside0.mk (blk_grown (g := gb179) (o := .cells #[.slice (some ad190) t180.length co23] 24 (0, 0)) (by (with_reducible repeat (first | refine blk_drewN ?_ _ | refine blk_drew ?_ | refine blk_alloc ?_ _)); exact BK179.out) hg (Kd.R_ne HO_6.out BK179.out (by decide))); have n5_ := Aside0.mk (blk_grown (g := gb191) (o := .cells #[.int .i64 ((rd_T34 t180 (ji14)).f0), .int .i64 ((rd_T34 t180 (ji14)).f1), .int .i64 ((rd_T34 t180 (ji14)).f2), .slice A190_3 ((rd_T34 t180 (ji14)).f3).length c190_3] 34 (0, 0)) (by (with_reducible repeat (first | refine blk_drewN ?_ _ | refine blk_drew ?_ | refine blk_alloc ?_ _)); exact BK191.out) hg (Kd.R_ne HO_6.out BK191.out (by decide))); have n6_ := Aside0.mk ((by rw [hw]; exact below_set (HB.out) GB51.out : Below w.heap.size w w54)); clear HO_3; clear HO_6; clear HO_67; clear HO_180000; clear BK179; clear BK191; clear HB; have HO_3 := n0_; have HO_6 := n1_; have HO_67 := n2_; have HO_180000 := n3_; have BK179 := n4_; have BK191 := n5_; have HB := n6_; clear n0_ n1_ n2_ n3_ n4_ n5_ n6_; clear hg hw hp_))
                                              repeat (go_quiet (first | ((with_reducible refine gate_store (t := 3) (p := 94) rfl ?_); (try (rw [drewN_self wr]; generalize hq_ : World.drewN wr _ = wr; have n0_ := Aside0.mk (Kd.R_at hq_ HO_3.out); have n1_ := Aside0.mk (Kd.R_at hq_ HO_6.out); have n2_ := Aside0.mk (Kd.R_at hq_ HO_67.out); have n3_ := Aside0.mk (Kd.N_at hq_ HO_180000.out); have n4_ := Aside0.mk (blk_at hq_ BK179.out); have n5_ := Aside0.mk (blk_at hq_ BK191.out); have n6_ := Aside0.mk (below_at hq_ HB.out); clear hq_ HO_3 HO_6 HO_67 HO_180000 BK179 BK191 HB; have HO_3 := n0_; have HO_6 := n1_; have HO_67 := n2_; have HO_180000 := n3_; have BK179 := n4_; have BK191 := n5_; have HB := n6_; clear n0_ n1_ n2_ n3_ n4_ n5_ n6_; (try (have HP53 := Kd.R_putg HO_6.out ((rd t195 x69_2) : Int) (wrap64 ((rd x6_2 (rd t195 x69_2)) + 1)))))); refine store_event (t := 3) (p := 94) (v := ?vo_w54) (w1 := (wr.setCell ⟨go51, ((rd t195 x69_2) : Int).toNat, none⟩ (.int .i64 (wrap64 ((rd x6_2 (rd t195 x69_2)) + 1))))) ?hg ?ho ?hn ?hr ?_; (case ho => rfl); (case hg => rfl); (case hn => rfl); (case hr => first | (go_simp; done) | (go_simp; rfl)); intro w54 hw; have hg : wr.grownBy w54 (some go51) := (by rw [hw]; exact HP53.2); have hp_ : Kd.R (Kd.int .i64) 3 w54 w.heap.size (fun k_ => some k_ ≠ (.slice (some ad201) t185.length co32 : Value).ownBlock ∧ some k_ ≠ (.slice (some ad200) t195.length co41 : Value).ownBlock) (.slice (some ⟨go51, 0, none⟩) x6_2.length co52) y203 := (by rw [hw, Ny203.out]; exact HP53.1); clear HP53; have n0_ := Aside0.mk (Kd.R_after (v := (.slice (some ⟨go51, 0, none⟩) x6_2.length co52)) (v1 := (.slice (some ⟨go51, 0, none⟩) x6_2.length co52)) (ok := (fun k_ => some k_ ≠ (.slice (some ad200) t195.length co41 : Value).ownBlock)) (by (with_reducible repeat (first | apply Kd.R_alloc | apply Kd.R_drewN | apply Kd.R_drew)); exact Kd.R_mono HO_3.out (fun _ hk => ⟨hk.2, hk.1⟩)) hg (.inl rfl)); have n1_ := Aside0.mk (hp_); have n2_ := Aside0.mk (Kd.R_after (v := (.slice (some ⟨go51, 0, none⟩) x6_2.length co52)) (v1 := (.slice (some ⟨go51, 0, none⟩) x6_2.length co52)) (ok := (fun k_ => some k_ ≠ (.slice (some ad201) t185.length co32 : Value).ownBlock)) (by (with_reducible repeat (first | apply Kd.R_alloc | apply Kd.R_drewN | apply Kd.R_drew)); exact HO_67.out) hg (.inl rfl)); have n3_ := Aside0.mk (Kd.N_afterv (v := (.slice (some ⟨go51, 0, none⟩) x6_2.length co52)) (v1 := (.slice (some ⟨go51, 0, none⟩) x6_2.length co52)) (ok := (fun k_ => some k_ ≠ (.slice (some ad201) t185.length co32 : Value).ownBlock ∧ some k_ ≠ (.slice (some ad200) t195.length co41 : Value).ownBlock ∧ k_ ≠ gb179 ∧ k_ ≠ gb191)) (by (with_reducible repeat (first | apply Kd.N_alloc | apply Kd.N_drewN | apply Kd.N_drew)); exact Kd.N_mono HO_180000.out (fun _ hk => ⟨⟨hk.1, ⟨hk.2.2.1, ⟨hk.2.2.2.1, hk.2.2.2.2⟩⟩⟩, hk.2.1⟩)) hg (.inl rfl)); have n4_ := Aside0.mk (blk_grown (g := gb179) (o := .cells #[.slice (some ad190) t180.length co23] 24 (0, 0)) (by (with_reducible repeat (first | refine blk_drewN ?_ _ | refine blk_drew ?_ | refine blk_alloc ?_ _)); exact BK179.out) hg (Kd.R_ne HO_6.out BK179.out (by decide))); have n5_ := Aside0.mk (blk_grown (g := gb191) (o := .cells #[.int .i64 ((rd_T34 t180 (ji14)).f0), .int .i64 ((rd_T34 t180 (ji14)).f1), .int .i64 ((rd_T34 t180 (ji14)).f2), .slice A190_3 ((rd_T34 t180 (ji14)).f3).length c190_3] 34 (0, 0)) (by (with_reducible repeat (first | refine blk_drewN ?_ _ | refine blk_drew ?_ | refine blk_alloc ?_ _)); exact BK191.out) hg (Kd.R_ne HO_6.out BK191.out (by decide))); have n6_ := Aside0.mk ((by rw [hw]; exact below_set (HB.out) GB51.out : Below w.heap.size w w54)); clear HO_3; clear HO_6; clear HO_67; clear HO_180000; clear BK179; clear BK191; clear HB; have HO_3 := n0_; have HO_6 := n1_; have HO_67 := n2_; have HO_180000 := n3_; have BK179 := n4_; have BK191 := n5_; have HB := n6_; clear n0_ n1_ n2_ n3_ n4_ n5_ n6_; clear hg hw hp_)); try go_wp2_with (first | ((with_reducible refine gate_store (t := 3) (p := 94) rfl ?_); (try (rw [drewN_self wr]; generalize hq_ : World.drewN wr _ = wr; have n0_ := Aside0.mk (Kd.R_at hq_ HO_3.out); have n1_ := Aside0.mk (Kd.R_at hq_ HO_6.out); have n2_ := Aside0.mk (Kd.R_at hq_ HO_67.out); have n3_ := Aside0.mk (Kd.N_at hq_ HO_180000.out); have n4_ := Aside0.mk (blk_at hq_ BK179.out); have n5_ := Aside0.mk (blk_at hq_ BK191.out); have n6_ := Aside0.mk (below_at hq_ HB.out); clear hq_ HO_3 HO_6 HO_67 HO_180000 BK179 BK191 HB; have HO_3 := n0_; have HO_6 := n1_; have HO_67 := n2_; have HO_180000 := n3_; have BK179 := n4_; have BK191 := n5_; have HB := n6_; clear n0_ n1_ n2_ n3_ n4_ n5_ n6_; (try (have HP53 := Kd.R_putg HO_6.out ((rd t195 x69_2) : Int) (wrap64 ((rd x6_2 (rd t195 x69_2)) + 1)))))); refine store_event (t := 3) (p := 94) (v := ?vo_w54) (w1 := (wr.setCell ⟨go51, ((rd t195 x69_2) : Int).toNat, none⟩ (.int .i64 (wrap64 ((rd x6_2 (rd t195 x69_2)) + 1))))) ?hg ?ho ?hn ?hr ?_; (case ho => rfl); (case hg => rfl); (case hn => rfl); (case hr => first | (go_simp; done) | (go_simp; rfl)); intro w54 hw; have hg : wr.grownBy w54 (some go51) := (by rw [hw]; exact HP53.2); have hp_ : Kd.R (Kd.int .i64) 3 w54 w.heap.size (fun k_ => some k_ ≠ (.slice (some ad201) t185.length co32 : Value).ownBlock ∧ some k_ ≠ (.slice (some ad200) t195.length co41 : Value).ownBlock) (.slice (some ⟨go51, 0, none⟩) x6_2.length co52) y203 := (by rw [hw, Ny203.out]; exact HP53.1); clear HP53; have n0_ := Aside0.mk (Kd.R_after (v := (.slice (some ⟨go51, 0, none⟩) x6_2.length co52)) (v1 := (.slice (some ⟨go51, 0, none⟩) x6_2.length co52)) (ok := (fun k_ => some k_ ≠ (.slice (some ad200) t195.length co41 : Value).ownBlock)) (by (with_reducible repeat (first | apply Kd.R_alloc | apply Kd.R_drewN | apply Kd.R_drew)); exact Kd.R_mono HO_3.out (fun _ hk => ⟨hk.2, hk.1⟩)) hg (.inl rfl)); have n1_ := Aside0.mk (hp_); have n2_ := Aside0.mk (Kd.R_after (v := (.slice (some ⟨go51, 0, none⟩) x6_2.length co52)) (v1 := (.slice (some ⟨go51, 0, none⟩) x6_2.length co52)) (ok := (fun k_ => some k_ ≠ (.slice (some ad201) t185.length co32 : Value).ownBlock)) (by (with_reducible repeat (first | apply Kd.R_alloc | apply Kd.R_drewN | apply Kd.R_drew)); exact HO_67.out) hg (.inl rfl)); have n3_ := Aside0.mk (Kd.N_afterv (v := (.slice (some ⟨go51, 0, none⟩) x6_2.length co52)) (v1 := (.slice (some ⟨go51, 0, none⟩) x6_2.length co52)) (ok := (fun k_ => some k_ ≠ (.slice (some ad201) t185.length co32 : Value).ownBlock ∧ some k_ ≠ (.slice (some ad200) t195.length co41 : Value).ownBlock ∧ k_ ≠ gb179 ∧ k_ ≠ gb191)) (by (with_reducible repeat (first | apply Kd.N_alloc | apply Kd.N_drewN | apply Kd.N_drew)); exact Kd.N_mono HO_180000.out (fun _ hk => ⟨⟨hk.1, ⟨hk.2.2.1, ⟨hk.2.2.2.1, hk.2.2.2.2⟩⟩⟩, hk.2.1⟩)) hg (.inl rfl)); have n4_ := Aside0.mk (blk_grown (g := gb179) (o := .cells #[.slice (some ad190) t180.length co23] 24 (0, 0)) (by (with_reducible repeat (first | refine blk_drewN ?_ _ | refine blk_drew ?_ | refine blk_alloc ?_ _)); exact BK179.out) hg (Kd.R_ne HO_6.out BK179.out (by decide))); have n5_ := Aside0.mk (blk_grown (g := gb191) (o := .cells #[.int .i64 ((rd_T34 t180 (ji14)).f0), .int .i64 ((rd_T34 t180 (ji14)).f1), .int .i64 ((rd_T34 t180 (ji14)).f2), .slice A190_3 ((rd_T34 t180 (ji14)).f3).length c190_3] 34 (0, 0)) (by (with_reducible repeat (first | refine blk_drewN ?_ _ | refine blk_drew ?_ | refine blk_alloc ?_ _)); exact BK191.out) hg (Kd.R_ne HO_6.out BK191.out (by decide))); have n6_ := Aside0.mk ((by rw [hw]; exact below_set (HB.out) GB51.out : Below w.heap.size w w54)); clear HO_3; clear HO_6; clear HO_67; clear HO_180000; clear BK179; clear BK191; clear HB; have HO_3 := n0_; have HO_6 := n1_; have HO_67 := n2_; have HO_180000 := n3_; have BK179 := n4_; have BK191 := n5_; have HB := n6_; clear n0_ n1_ n2_ n3_ n4_ n5_ n6_; clear hg hw hp_)))
                                              go_roundg k2
                                              case measure => have := HK1.out; have := HK2.out; omega
                                              case rel => exact ⟨(y203), (wrap64 (x69_2 + 1)), (by first | rfl | (simp; done) | (simp [*]; done)), H', ⟨by have := HK1.out; have := HK2.out; omega⟩, ⟨by (with_reducible repeat (first | apply Kd.R_alloc | apply Kd.R_drewN | apply Kd.R_drew)); exact Kd.R_mono HO_3.out (fun _ hk => ⟨hk.2, hk.1⟩)⟩, ⟨by (with_reducible repeat (first | apply Kd.R_alloc | apply Kd.R_drewN | apply Kd.R_drew)); exact HO_6.out⟩, ⟨by (with_reducible repeat (first | apply Kd.R_alloc | apply Kd.R_drewN | apply Kd.R_drew)); exact HO_67.out⟩, ⟨by (with_reducible repeat (first | apply Kd.N_alloc | apply Kd.N_drewN | apply Kd.N_drew)); exact Kd.N_mono HO_180000.out (fun _ hk => ⟨hk.1.1, ⟨hk.2, ⟨hk.1.2.1, ⟨hk.1.2.2.1, hk.1.2.2.2⟩⟩⟩⟩)⟩, ⟨by (with_reducible repeat (first | refine blk_drewN ?_ _ | refine blk_drew ?_ | refine blk_alloc ?_ _)); exact BK179.out⟩, ⟨by (with_reducible repeat (first | refine blk_drewN ?_ _ | refine blk_drew ?_ | refine blk_alloc ?_ _)); exact BK191.out⟩, ⟨by repeat (first | (with_reducible first | exact HB.out | apply below_alloc | apply pw_below_drewN | apply below_drew1 | refine below_set ?_ GE179.out | refine below_set ?_ GE191.out) | exact HB.out)⟩⟩
                                            · rw [if_neg c50] at H
                                              exact absurd H (by simp)
                                          · rw [if_neg c49] at H
                                            have c49b0 : ((rd t185 (rd t195 x69_2)) == x56_1) = false := beq_eq_false_iff_ne.mpr c49
                                            have c49b1 : ((rd t185 (rd t195 x69_2)) != x56_1) = true := bne_iff_ne.mpr c49
                                            obtain rfl := Option.some.inj H
                                            have p200 : 0 ≤ (x69_2 : Int) := of_decide_eq_true (by first | (with_reducible assumption) | assumption)
                                            have q200 : x69_2 < (t195.length : Int) := of_decide_eq_true (by first | (with_reducible assumption) | assumption)
                                            obtain ⟨ad200, e200, hx200_0⟩ := Kd.at_int (Kd.R_reads' HO_67.out).2.2 x69_2 p200 q200
                                            cases e200
                                            replace p200 := eq_true p200
                                            replace q200 := eq_true q200
                                            have p201 : 0 ≤ ((rd t195 x69_2) : Int) := of_decide_eq_true (by first | (with_reducible assumption) | assumption)
                                            have q201 : (rd t195 x69_2) < (t185.length : Int) := of_decide_eq_true (by first | (with_reducible assumption) | assumption)
                                            obtain ⟨ad201, e201, hx201_0⟩ := Kd.at_int (Kd.R_reads' HO_3.out).2.2 (rd t195 x69_2) p201 q201
                                            cases e201
                                            replace p201 := eq_true p201
                                            replace q201 := eq_true q201
                                            go_wp2
                                            repeat (go_quiet (fail); try go_wp2)
                                            go_ret
                                            exact ⟨by first | rfl | (simp [errW_none, errW_some, erT_no, erV_no, erT_at, erV_at] <;> rfl) | (simp only [← hji14]; first | rfl | (simp [errW_none, errW_some, erT_no, erV_no, erT_at, erV_at] <;> rfl)) | (simp [*, errW_none, errW_some, erT_no, erV_no, erT_at, erV_at] <;> rfl), by repeat (first | (with_reducible first | exact HB.out | apply below_alloc | apply pw_below_drewN | apply below_drew1 | refine below_set ?_ GE179.out | refine below_set ?_ GE191.out) | exact HB.out)⟩
                                        · rw [if_neg c48] at H
                                          exact absurd H (by simp)
                                      · rw [if_neg c47] at H
                                        exact absurd H (by simp)
                                · rw [if_neg c44] at H
                                  exact absurd H (by simp)
                              · rw [if_neg c43] at H
                                exact absurd H (by simp)
                            · rw [if_neg c42] at H
                              have c42b0 : decide (x69_2 < (t195.length : Int)) = false := decide_eq_false c42
                              clear c42
                              have H' := Aside0.mk H
                              clear H
                              go_wp2
                              repeat (go_quiet (fail); try go_wp2)
                              go_roundg k2
                              case measure => have := HK1.out; have := HK2.out; omega
                              case rel => exact ⟨(x6_2), (wrap64 (x56_1 + 1)), (by first | rfl | (simp; done) | (simp [*]; done)), H', ⟨by have := HK1.out; have := HK2.out; omega⟩, ⟨by (with_reducible repeat (first | apply Kd.R_alloc | apply Kd.R_drewN | apply Kd.R_drew)); exact Kd.R_mono HO_3.out (fun _ hk => hk.1)⟩, ⟨by (with_reducible repeat (first | apply Kd.R_alloc | apply Kd.R_drewN | apply Kd.R_drew)); exact Kd.R_mono HO_6.out (fun _ hk => hk.1)⟩, ⟨by (with_reducible repeat (first | apply Kd.N_alloc | apply Kd.N_drewN | apply Kd.N_drew)); exact Kd.N_mono HO_180000.out (fun _ hk => ⟨hk.1, ⟨hk.2.1, ⟨hk.2.2.2.1, hk.2.2.2.2⟩⟩⟩)⟩, ⟨by (with_reducible repeat (first | refine blk_drewN ?_ _ | refine blk_drew ?_ | refine blk_alloc ?_ _)); exact BK179.out⟩, ⟨by (with_reducible repeat (first | refine blk_drewN ?_ _ | refine blk_drew ?_ | refine blk_alloc ?_ _)); exact BK191.out⟩, ⟨by repeat (first | (with_reducible first | exact HB.out | apply below_alloc | apply pw_below_drewN | apply below_drew1 | refine below_set ?_ GE179.out | refine below_set ?_ GE191.out) | exact HB.out)⟩⟩
                      · have H1 : (some false) = some r := by rw [if_neg (show ¬ (some q199).isNone = true by simp)] at H; exact H
                        clear H
                        have H := H1
                        clear H1
                        try simp only [errW_none, errW_some, erT_no, erV_no, erT_at, erV_at]
                        obtain rfl := Option.some.inj H
                        have hnb55 := NB179_191.out
                        have hnc55 := NB191_179.out
                        have hcz56_0 : wr.cell? ⟨gb179, 0, none⟩ = some (.slice (some ad190) t180.length co23) := (blk_cell BK179.out 0).trans rfl
                        have hfz56_0 := blk_frozen BK179.out 0
                        go_wp2_with (first | (go_at_call 13; (with_reducible refine (tree_Own.calls k1 _ _ t180 x56_1 t195 (some q199) _ ?side1 ?side2 A37.out).mono ?_); (case side1 => repeat (first | exact (Kd.N_reads' HO_180000.out).2.2 | (with_reducible refine Kd.C_alloc ?_ _) | (with_reducible refine Kd.C_drewN ?_ _) | (with_reducible refine Kd.C_drew ?_))); (case side2 => exact (Kd.N_reads' HO_180000.out).2.1); rintro e w57 ⟨v196, rfl, ho0, hb⟩; have n0_ := Aside0.mk (Kd.R_elder' (by (with_reducible repeat (first | apply Kd.R_alloc | apply Kd.R_drewN | apply Kd.R_drew)); exact HO_3.out) (Kd.R_base ho0) hb); have n1_ := Aside0.mk (Kd.R_elder' (by (with_reducible repeat (first | apply Kd.R_alloc | apply Kd.R_drewN | apply Kd.R_drew)); exact HO_6.out) (Kd.R_base ho0) hb); have n2_ := Aside0.mk (Kd.N_elder' (by (with_reducible repeat (first | apply Kd.N_alloc | apply Kd.N_drewN | apply Kd.N_drew)); exact HO_180000.out) (Kd.R_base ho0) hb); have n3_ := Aside0.mk (Kd.R_lower (Kd.R_new' (Kd.R_new' ho0 (Kd.R_lt (by (with_reducible repeat (first | apply Kd.R_alloc | apply Kd.R_drewN | apply Kd.R_drew)); exact HO_3.out))) (Kd.R_lt (by (with_reducible repeat (first | apply Kd.R_alloc | apply Kd.R_drewN | apply Kd.R_drew)); exact HO_6.out))) (below_size (by repeat (first | (with_reducible first | exact HB.out | apply below_alloc | apply pw_below_drewN | apply below_drew1 | refine below_set ?_ GE179.out | refine below_set ?_ GE191.out) | exact HB.out)))); have n4_ := Aside0.mk (blk_below (g := gb179) (o := .cells #[.slice (some ad190) t180.length co23] 24 (0, 0)) (by (with_reducible repeat (first | refine blk_drewN ?_ _ | refine blk_drew ?_ | refine blk_alloc ?_ _)); exact BK179.out) hb); have n5_ := Aside0.mk (blk_below (g := gb191) (o := .cells #[.int .i64 ((rd_T34 t180 (ji14)).f0), .int .i64 ((rd_T34 t180 (ji14)).f1), .int .i64 ((rd_T34 t180 (ji14)).f2), .slice A190_3 ((rd_T34 t180 (ji14)).f3).length c190_3] 34 (0, 0)) (by (with_reducible repeat (first | refine blk_drewN ?_ _ | refine blk_drew ?_ | refine blk_alloc ?_ _)); exact BK191.out) hb); have n6_ := Aside0.mk (below_step (by repeat (first | (with_reducible first | exact HB.out | apply below_alloc | apply pw_below_drewN | apply below_drew1 | refine below_set ?_ GE179.out | refine below_set ?_ GE191.out) | exact HB.out)) hb); clear HO_3; clear HO_6; clear HO_180000; clear BK179; clear BK191; clear HB; have HO_3 := n0_; have HO_6 := n1_; have HO_180000 := n2_; have HO197 := n3_; have BK179 := n4_; have BK191 := n5_; have HB := n6_; clear n0_ n1_ n2_ n3_ n4_ n5_ n6_; (try clear hb); (try clear hb2); (try clear hk); (try clear hi); (try clear ho0); (try simp only [errW_none, errW_some, erT_no, erV_no, erT_at, erV_at])))
                        repeat (go_quiet (first | (go_at_call 13; (with_reducible refine (tree_Own.calls k1 _ _ t180 x56_1 t195 (some q199) _ ?side1 ?side2 A37.out).mono ?_); (case side1 => repeat (first | exact (Kd.N_reads' HO_180000.out).2.2 | (with_reducible refine Kd.C_alloc ?_ _) | (with_reducible refine Kd.C_drewN ?_ _) | (with_reducible refine Kd.C_drew ?_))); (case side2 => exact (Kd.N_reads' HO_180000.out).2.1); rintro e w57 ⟨v196, rfl, ho0, hb⟩; have n0_ := Aside0.mk (Kd.R_elder' (by (with_reducible repeat (first | apply Kd.R_alloc | apply Kd.R_drewN | apply Kd.R_drew)); exact HO_3.out) (Kd.R_base ho0) hb); have n1_ := Aside0.mk (Kd.R_elder' (by (with_reducible repeat (first | apply Kd.R_alloc | apply Kd.R_drewN | apply Kd.R_drew)); exact HO_6.out) (Kd.R_base ho0) hb); have n2_ := Aside0.mk (Kd.N_elder' (by (with_reducible repeat (first | apply Kd.N_alloc | apply Kd.N_drewN | apply Kd.N_drew)); exact HO_180000.out) (Kd.R_base ho0) hb); have n3_ := Aside0.mk (Kd.R_lower (Kd.R_new' (Kd.R_new' ho0 (Kd.R_lt (by (with_reducible repeat (first | apply Kd.R_alloc | apply Kd.R_drewN | apply Kd.R_drew)); exact HO_3.out))) (Kd.R_lt (by (with_reducible repeat (first | apply Kd.R_alloc | apply Kd.R_drewN | apply Kd.R_drew)); exact HO_6.out))) (below_size (by repeat (first | (with_reducible first | exact HB.out | apply below_alloc | apply pw_below_drewN | apply below_drew1 | refine below_set ?_ GE179.out | refine below_set ?_ GE191.out) | exact HB.out)))); have n4_ := Aside0.mk (blk_below (g := gb179) (o := .cells #[.slice (some ad190) t180.length co23] 24 (0, 0)) (by (with_reducible repeat (first | refine blk_drewN ?_ _ | refine blk_drew ?_ | refine blk_alloc ?_ _)); exact BK179.out) hb); have n5_ := Aside0.mk (blk_below (g := gb191) (o := .cells #[.int .i64 ((rd_T34 t180 (ji14)).f0), .int .i64 ((rd_T34 t180 (ji14)).f1), .int .i64 ((rd_T34 t180 (ji14)).f2), .slice A190_3 ((rd_T34 t180 (ji14)).f3).length c190_3] 34 (0, 0)) (by (with_reducible repeat (first | refine blk_drewN ?_ _ | refine blk_drew ?_ | refine blk_alloc ?_ _)); exact BK191.out) hb); have n6_ := Aside0.mk (below_step (by repeat (first | (with_reducible first | exact HB.out | apply below_alloc | apply pw_below_drewN | apply below_drew1 | refine below_set ?_ GE179.out | refine below_set ?_ GE191.out) | exact HB.out)) hb); clear HO_3; clear HO_6; clear HO_180000; clear BK179; clear BK191; clear HB; have HO_3 := n0_; have HO_6 := n1_; have HO_180000 := n2_; have HO197 := n3_; have BK179 := n4_; have BK191 := n5_; have HB := n6_; clear n0_ n1_ n2_ n3_ n4_ n5_ n6_; (try clear hb); (try clear hb2); (try clear hk); (try clear hi); (try clear ho0); (try simp only [errW_none, errW_some, erT_no, erV_no, erT_at, erV_at]))); try go_wp2_with (first | (go_at_call 13; (with_reducible refine (tree_Own.calls k1 _ _ t180 x56_1 t195 (some q199) _ ?side1 ?side2 A37.out).mono ?_); (case side1 => repeat (first | exact (Kd.N_reads' HO_180000.out).2.2 | (with_reducible refine Kd.C_alloc ?_ _) | (with_reducible refine Kd.C_drewN ?_ _) | (with_reducible refine Kd.C_drew ?_))); (case side2 => exact (Kd.N_reads' HO_180000.out).2.1); rintro e w57 ⟨v196, rfl, ho0, hb⟩; have n0_ := Aside0.mk (Kd.R_elder' (by (with_reducible repeat (first | apply Kd.R_alloc | apply Kd.R_drewN | apply Kd.R_drew)); exact HO_3.out) (Kd.R_base ho0) hb); have n1_ := Aside0.mk (Kd.R_elder' (by (with_reducible repeat (first | apply Kd.R_alloc | apply Kd.R_drewN | apply Kd.R_drew)); exact HO_6.out) (Kd.R_base ho0) hb); have n2_ := Aside0.mk (Kd.N_elder' (by (with_reducible repeat (first | apply Kd.N_alloc | apply Kd.N_drewN | apply Kd.N_drew)); exact HO_180000.out) (Kd.R_base ho0) hb); have n3_ := Aside0.mk (Kd.R_lower (Kd.R_new' (Kd.R_new' ho0 (Kd.R_lt (by (with_reducible repeat (first | apply Kd.R_alloc | apply Kd.R_drewN | apply Kd.R_drew)); exact HO_3.out))) (Kd.R_lt (by (with_reducible repeat (first | apply Kd.R_alloc | apply Kd.R_drewN | apply Kd.R_drew)); exact HO_6.out))) (below_size (by repeat (first | (with_reducible first | exact HB.out | apply below_alloc | apply pw_below_drewN | apply below_drew1 | refine below_set ?_ GE179.out | refine below_set ?_ GE191.out) | exact HB.out)))); have n4_ := Aside0.mk (blk_below (g := gb179) (o := .cells #[.slice (some ad190) t180.length co23] 24 (0, 0)) (by (with_reducible repeat (first | refine blk_drewN ?_ _ | refine blk_drew ?_ | refine blk_alloc ?_ _)); exact BK179.out) hb); have n5_ := Aside0.mk (blk_below (g := gb191) (o := .cells #[.int .i64 ((rd_T34 t180 (ji14)).f0), .int .i64 ((rd_T34 t180 (ji14)).f1), .int .i64 ((rd_T34 t180 (ji14)).f2), .slice A190_3 ((rd_T34 t180 (ji14)).f3).length c190_3] 34 (0, 0)) (by (with_reducible repeat (first | refine blk_drewN ?_ _ | refine blk_drew ?_ | refine blk_alloc ?_ _)); exact BK191.out) hb); have n6_ := Aside0.mk (below_step (by repeat (first | (with_reducible first | exact HB.out | apply below_alloc | apply pw_below_drewN | apply below_drew1 | refine below_set ?_ GE179.out | refine below_set ?_ GE191.out) | exact HB.out)) hb); clear HO_3; clear HO_6; clear HO_180000; clear BK179; clear BK191; clear HB; have HO_3 := n0_; have HO_6 := n1_; have HO_180000 := n2_; have HO197 := n3_; have BK179 := n4_; have BK191 := n5_; have HB := n6_; clear n0_ n1_ n2_ n3_ n4_ n5_ n6_; (try clear hb); (try clear hb2); (try clear hk); (try clear hi); (try clear ho0); (try simp only [errW_none, errW_some, erT_no, erV_no, erT_at, erV_at]))))
                        go_ret
                        exact ⟨by first | rfl | (simp [errW_none, errW_some, erT_no, erV_no, erT_at, erV_at] <;> rfl) | (simp only [← hji14]; first | rfl | (simp [errW_none, errW_some, erT_no, erV_no, erT_at, erV_at] <;> rfl)) | (simp [*, errW_none, errW_some, erT_no, erV_no, erT_at, erV_at] <;> rfl), by repeat (first | (with_reducible first | exact HB.out | apply below_alloc | apply pw_below_drewN | apply below_drew1 | refine below_set ?_ GE179.out | refine below_set ?_ GE191.out) | exact HB.out)⟩
                    · rw [if_neg c36] at H
                      have c36b0 : decide (x56_1 < (t180.length : Int)) = false := decide_eq_false c36
                      clear c36
                      have H' := Aside0.mk H
                      clear H
                      obtain ⟨Ao58, co58, eo58⟩ := Kd.R_slice HO_6.out
                      subst eo58
                      go_wp2
                      repeat (go_quiet (fail); try go_wp2)
                      go_loopg [99] k1 (fun kq v99 w' => ∃ (x99_2 : Int), v99 = .int .i64 x99_2 ∧ Aside0 (cavillaw13_TreeWhole.l2 kq t185 x6_1 (x6_1.length : Int) x99_2 t180 ((rd_T34 t180 (ji14)).f0) ((rd_T34 t180 (ji14)).f1) ((rd_T34 t180 (ji14)).f2) ((rd_T34 t180 (ji14)).f3) = some r) ∧ Aside0 (kq ≤ k1) ∧ Aside0 (Kd.R (Kd.int .i64) 3 w' w.heap.size (fun k_ => some k_ ≠ ((.slice Ao58 x6_1.length co58) : Value).ownBlock) (.slice Ao32 t185.length co32) t185) ∧ Aside0 (Kd.R (Kd.int .i64) 3 w' w.heap.size (fun k_ => some k_ ≠ ((.slice Ao32 t185.length co32) : Value).ownBlock) (.slice Ao58 x6_1.length co58) x6_1) ∧ Aside0 (Kd.N k34 34 w' w.heap.size (fun k_ => some k_ ≠ ((.slice Ao32 t185.length co32) : Value).ownBlock ∧ some k_ ≠ ((.slice Ao58 x6_1.length co58) : Value).ownBlock ∧ k_ ≠ gb179 ∧ k_ ≠ gb191) (.slice (some ad190) t180.length co23) t180) ∧ Aside0 (w'.heap[gb179]? = some (.cells #[(.slice (some ad190) t180.length co23)] 24 (0, 0))) ∧ Aside0 (w'.heap[gb191]? = some (.cells #[.int .i64 ((rd_T34 t180 (ji14)).f0), .int .i64 ((rd_T34 t180 (ji14)).f1), .int .i64 ((rd_T34 t180 (ji14)).f2), (.slice A190_3 ((rd_T34 t180 (ji14)).f3).length c190_3)] 34 (0, 0))) ∧ Aside0 (Below w.heap.size w w'))
                      case atStart => exact ⟨(0), (by first | rfl | (simp; done) | (simp [*]; done)), H', ⟨Nat.le_refl _⟩, ⟨by (with_reducible repeat (first | apply Kd.R_alloc | apply Kd.R_drewN | apply Kd.R_drew)); exact HO_3.out⟩, ⟨by (with_reducible repeat (first | apply Kd.R_alloc | apply Kd.R_drewN | apply Kd.R_drew)); exact HO_6.out⟩, ⟨by (with_reducible repeat (first | apply Kd.N_alloc | apply Kd.N_drewN | apply Kd.N_drew)); exact HO_180000.out⟩, ⟨by (with_reducible repeat (first | refine blk_drewN ?_ _ | refine blk_drew ?_ | refine blk_alloc ?_ _)); exact BK179.out⟩, ⟨by (with_reducible repeat (first | refine blk_drewN ?_ _ | refine blk_drew ?_ | refine blk_alloc ?_ _)); exact BK191.out⟩, ⟨by repeat (first | (with_reducible first | exact HB.out | apply below_alloc | apply pw_below_drewN | apply below_drew1 | refine below_set ?_ GE179.out | refine below_set ?_ GE191.out) | exact HB.out)⟩⟩
                      case round =>
                        clear H'
                        try clear c1
                        try clear p1
                        try clear q1
                        try clear hx1
                        try clear p2
                        try clear q2
                        try clear hx2
                        try clear c3
                        try clear c4
                        try clear c5
                        try clear p5
                        try clear q5
                        try clear hx5
                        try clear hf5
                        try clear p6
                        try clear c15
                        try clear c15b0
                        try clear c16
                        try clear c16b0
                        try clear c17
                        try clear c17b0
                        try clear c17b1
                        try clear c18
                        try clear c18b0
                        try clear c18b1
                        try clear q18
                        try clear c19
                        try clear c19b0
                        try clear c19b1
                        try clear p19
                        try clear q19
                        try clear hx19
                        try clear p20
                        try clear q20
                        try clear hx20
                        try clear c30
                        try clear c36
                        try clear c36b0
                        try clear c38
                        try clear c42
                        try clear c42b0
                        try clear c43
                        try clear c43b0
                        try clear c44
                        try clear c44b0
                        try clear c45
                        try clear c45b0
                        try clear c46
                        try clear c46b0
                        try clear c47
                        try clear c47b0
                        try clear c48
                        try clear c48b0
                        try clear c49
                        try clear c49b0
                        try clear c49b1
                        try clear c50
                        try clear c50b0
                        try clear p51
                        try clear q51
                        try clear hx51
                        try clear hf51
                        try clear c55
                        try clear hcz10_0
                        try clear hcz21_0
                        try clear hcz24_0
                        try clear hcz26_0
                        try clear hcz28_0
                        try clear hcz31_0
                        try clear hcz31_1
                        try clear hcz31_2
                        try clear hcz31_3
                        try clear hcz35_0
                        try clear hcz39_0
                        try clear hcz56_0
                        try clear hcz7_0
                        try clear hfz10_0
                        try clear hfz21_0
                        try clear hfz24_0
                        try clear hfz26_0
                        try clear hfz28_0
                        try clear hfz31_0
                        try clear hfz31_1
                        try clear hfz31_2
                        try clear hfz31_3
                        try clear hfz35_0
                        try clear hfz39_0
                        try clear hfz56_0
                        try clear hfz7_0
                        try clear hx190_0
                        try clear hx190_1
                        try clear hx190_2
                        try clear hx190_3
                        try clear hx200_0
                        try clear hx201_0
                        try clear hx202_0
                        try clear hx51_0
                        try clear p1
                        try clear p19
                        try clear p190
                        try clear p2
                        try clear p200
                        try clear p201
                        try clear p202
                        try clear p51
                        try clear p6
                        try clear q1
                        try clear q18
                        try clear q189
                        try clear q19
                        try clear q190
                        try clear q199
                        try clear q200
                        try clear q201
                        try clear q202
                        try clear q51
                        obtain ⟨x99_2, rfl, HA, HK2, HO_3, HO_97, HO_180000, BK179, BK191, HB⟩ := hrel
                        cases gk with
                        | zero => exact absurd HA.out (by simp [cavillaw13_TreeWhole.l2])
                        | succ k2 =>
                          have H := HA.out
                          clear HA
                          simp only [cavillaw13_TreeWhole.l2] at H
                          by_cases c59 : x99_2 < (x6_1.length : Int)
                          · rw [if_pos c59] at H
                            have c59b0 : decide (x99_2 < (x6_1.length : Int)) = true := decide_eq_true c59
                            clear c59
                            by_cases c60 : 0 ≤ x99_2
                            · rw [if_pos c60] at H
                              have c60b0 : decide (0 ≤ x99_2) = true := decide_eq_true c60
                              clear c60
                              by_cases c61 : x99_2 < (x6_1.length : Int)
                              · rw [if_pos c61] at H
                                have c61b0 : decide (x99_2 < (x6_1.length : Int)) = true := decide_eq_true c61
                                clear c61
                                by_cases c62 : x99_2 ≥ ((rd_T34 t180 (ji14)).f1)
                                · rw [if_pos c62] at H
                                  have c62b0 : decide (((rd_T34 t180 (ji14)).f1) ≤ x99_2) = true := decide_eq_true c62
                                  clear c62
                                  by_cases c63 : (rd x6_1 x99_2) = 1
                                  · rw [if_pos c63] at H
                                    have c63b0 : ((rd x6_1 x99_2) == 1) = true := beq_iff_eq.mpr c63
                                    have c63b1 : ((rd x6_1 x99_2) != 1) = false := bne_eq_false_iff_eq.mpr c63
                                    clear c63
                                    by_cases c64 : x99_2 < (t185.length : Int)
                                    · rw [if_pos c64] at H
                                      have c64b0 : decide (x99_2 < (t185.length : Int)) = true := decide_eq_true c64
                                      clear c64
                                      by_cases c65 : ((decide ((rd t185 x99_2) < 0)) != (1 == 0)) = true
                                      · rw [if_pos c65] at H
                                        have c65b0 : ((decide ((rd t185 x99_2) < 0)) != (1 == 0)) = true := c65
                                        have c65n : decide ((rd t185 x99_2) < 0) = true := by simpa using c65b0
                                        (try (have c65b1 : decide ((decide ((rd t185 x99_2) < 0)) = (1 == 0)) = false := by simpa using c65))
                                        (try (have c65b2 : ((decide ((rd t185 x99_2) < 0)) == (1 == 0)) = false := by simpa using c65))
                                        (try (have c65b3 : (((decide ((rd t185 x99_2) < 0)) = (1 == 0)) = False) := by simpa using c65))
                                        clear c65
                                        obtain rfl := Option.some.inj H
                                        have p204 : 0 ≤ (x99_2 : Int) := of_decide_eq_true (by first | (with_reducible assumption) | assumption)
                                        have q204 : x99_2 < (x6_1.length : Int) := of_decide_eq_true (by first | (with_reducible assumption) | assumption)
                                        obtain ⟨ad204, e204, hx204_0⟩ := Kd.at_int (Kd.R_reads' HO_97.out).2.2 x99_2 p204 q204
                                        cases e204
                                        replace p204 := eq_true p204
                                        replace q204 := eq_true q204
                                        have hnb66 := NB191_179.out
                                        have hnc66 := NB179_191.out
                                        have hcz67_0 : wr.cell? ⟨gb191, 0, none⟩ = some (.int .i64 ((rd_T34 t180 (ji14)).f0)) := (blk_cell BK191.out 0).trans rfl
                                        have hcz67_1 : wr.cell? ⟨gb191, 1, none⟩ = some (.int .i64 ((rd_T34 t180 (ji14)).f1)) := (blk_cell BK191.out 1).trans rfl
                                        have hcz67_2 : wr.cell? ⟨gb191, 2, none⟩ = some (.int .i64 ((rd_T34 t180 (ji14)).f2)) := (blk_cell BK191.out 2).trans rfl
                                        have hcz67_3 : wr.cell? ⟨gb191, 3, none⟩ = some (.slice A190_3 ((rd_T34 t180 (ji14)).f3).length c190_3) := (blk_cell BK191.out 3).trans rfl
                                        have hfz67_0 := blk_frozen BK191.out 0
                                        have hfz67_1 := blk_frozen BK191.out 1
                                        have hfz67_2 := blk_frozen BK191.out 2
                                        have hfz67_3 := blk_frozen BK191.out 3
                                        have p205 : 0 ≤ (x99_2 : Int) := of_decide_eq_true (by first | (with_reducible assumption) | assumption)
                                        have q205 : x99_2 < (t185.length : Int) := of_decide_eq_true (by first | (with_reducible assumption) | assumption)
                                        obtain ⟨ad205, e205, hx205_0⟩ := Kd.at_int (Kd.R_reads' HO_3.out).2.2 x99_2 p205 q205
                                        cases e205
                                        replace p205 := eq_true p205
                                        replace q205 := eq_true q205
                                        go_wp2
                                        repeat (go_quiet (fail); try go_wp2)
                                        go_ret
                                        exact ⟨by first | rfl | (simp [errW_none, errW_some, erT_no, erV_no, erT_at, erV_at] <;> rfl) | (simp only [← hji14]; first | rfl | (simp [errW_none, errW_some, erT_no, erV_no, erT_at, erV_at] <;> rfl)) | (simp [*, errW_none, errW_some, erT_no, erV_no, erT_at, erV_at] <;> rfl), by repeat (first | (with_reducible first | exact HB.out | apply below_alloc | apply pw_below_drewN | apply below_drew1 | refine below_set ?_ GE179.out | refine below_set ?_ GE191.out) | exact HB.out)⟩
                                      · rw [if_neg c65] at H
                                        have c65b0 : ((decide ((rd t185 x99_2) < 0)) != (1 == 0)) = false := by simpa using c65
                                        have c65n : decide ((rd t185 x99_2) < 0) = false := by simpa using c65b0
                                        (try (have c65b1 : decide ((decide ((rd t185 x99_2) < 0)) = (1 == 0)) = true := by simpa using c65))
                                        (try (have c65b2 : ((decide ((rd t185 x99_2) < 0)) == (1 == 0)) = true := by simpa using c65))
                                        clear c65
                                        have H' := Aside0.mk H
                                        clear H
                                        have p204 : 0 ≤ (x99_2 : Int) := of_decide_eq_true (by first | (with_reducible assumption) | assumption)
                                        have q204 : x99_2 < (x6_1.length : Int) := of_decide_eq_true (by first | (with_reducible assumption) | assumption)
                                        obtain ⟨ad204, e204, hx204_0⟩ := Kd.at_int (Kd.R_reads' HO_97.out).2.2 x99_2 p204 q204
                                        cases e204
                                        replace p204 := eq_true p204
                                        replace q204 := eq_true q204
                                        have hnb68 := NB191_179.out
                                        have hnc68 := NB179_191.out
                                        have hcz69_0 : wr.cell? ⟨gb191, 0, none⟩ = some (.int .i64 ((rd_T34 t180 (ji14)).f0)) := (blk_cell BK191.out 0).trans rfl
                                        have hcz69_1 : wr.cell? ⟨gb191, 1, none⟩ = some (.int .i64 ((rd_T34 t180 (ji14)).f1)) := (blk_cell BK191.out 1).trans rfl
                                        have hcz69_2 : wr.cell? ⟨gb191, 2, none⟩ = some (.int .i64 ((rd_T34 t180 (ji14)).f2)) := (blk_cell BK191.out 2).trans rfl
                                        have hcz69_3 : wr.cell? ⟨gb191, 3, none⟩ = some (.slice A190_3 ((rd_T34 t180 (ji14)).f3).length c190_3) := (blk_cell BK191.out 3).trans rfl
                                        have hfz69_0 := blk_frozen BK191.out 0
                                        have hfz69_1 := blk_frozen BK191.out 1
                                        have hfz69_2 := blk_frozen BK191.out 2
                                        have hfz69_3 := blk_frozen BK191.out 3
                                        have p205 : 0 ≤ (x99_2 : Int) := of_decide_eq_true (by first | (with_reducible assumption) | assumption)
                                        have q205 : x99_2 < (t185.length : Int) := of_decide_eq_true (by first | (with_reducible assumption) | assumption)
                                        obtain ⟨ad205, e205, hx205_0⟩ := Kd.at_int (Kd.R_reads' HO_3.out).2.2 x99_2 p205 q205
                                        cases e205
                                        replace p205 := eq_true p205
                                        replace q205 := eq_true q205
                                        go_wp2
                                        repeat (go_quiet (fail); try go_wp2)
                                        go_roundg k2
                                        case measure => have := HK1.out; have := HK2.out; omega
                                        case rel => exact ⟨(wrap64 (x99_2 + 1)), (by first | rfl | (simp; done) | (simp [*]; done)), H', ⟨by have := HK1.out; have := HK2.out; omega⟩, ⟨by (with_reducible repeat (first | apply Kd.R_alloc | apply Kd.R_drewN | apply Kd.R_drew)); exact HO_3.out⟩, ⟨by (with_reducible repeat (first | apply Kd.R_alloc | apply Kd.R_drewN | apply Kd.R_drew)); exact HO_97.out⟩, ⟨by (with_reducible repeat (first | apply Kd.N_alloc | apply Kd.N_drewN | apply Kd.N_drew)); exact HO_180000.out⟩, ⟨by (with_reducible repeat (first | refine blk_drewN ?_ _ | refine blk_drew ?_ | refine blk_alloc ?_ _)); exact BK179.out⟩, ⟨by (with_reducible repeat (first | refine blk_drewN ?_ _ | refine blk_drew ?_ | refine blk_alloc ?_ _)); exact BK191.out⟩, ⟨by repeat (first | (with_reducible first | exact HB.out | apply below_alloc | apply pw_below_drewN | apply below_drew1 | refine below_set ?_ GE179.out | refine below_set ?_ GE191.out) | exact HB.out)⟩⟩
                                    · rw [if_neg c64] at H
                                      exact absurd H (by simp)
                                  · rw [if_neg c63] at H
                                    have c63b0 : ((rd x6_1 x99_2) == 1) = false := beq_eq_false_iff_ne.mpr c63
                                    have c63b1 : ((rd x6_1 x99_2) != 1) = true := bne_iff_ne.mpr c63
                                    obtain rfl := Option.some.inj H
                                    have p204 : 0 ≤ (x99_2 : Int) := of_decide_eq_true (by first | (with_reducible assumption) | assumption)
                                    have q204 : x99_2 < (x6_1.length : Int) := of_decide_eq_true (by first | (with_reducible assumption) | assumption)
                                    obtain ⟨ad204, e204, hx204_0⟩ := Kd.at_int (Kd.R_reads' HO_97.out).2.2 x99_2 p204 q204
                                    cases e204
                                    replace p204 := eq_true p204
                                    replace q204 := eq_true q204
                                    have hnb70 := NB191_179.out
                                    have hnc70 := NB179_191.out
                                    have hcz71_0 : wr.cell? ⟨gb191, 0, none⟩ = some (.int .i64 ((rd_T34 t180 (ji14)).f0)) := (blk_cell BK191.out 0).trans rfl
                                    have hcz71_1 : wr.cell? ⟨gb191, 1, none⟩ = some (.int .i64 ((rd_T34 t180 (ji14)).f1)) := (blk_cell BK191.out 1).trans rfl
                                    have hcz71_2 : wr.cell? ⟨gb191, 2, none⟩ = some (.int .i64 ((rd_T34 t180 (ji14)).f2)) := (blk_cell BK191.out 2).trans rfl
                                    have hcz71_3 : wr.cell? ⟨gb191, 3, none⟩ = some (.slice A190_3 ((rd_T34 t180 (ji14)).f3).length c190_3) := (blk_cell BK191.out 3).trans rfl
                                    have hfz71_0 := blk_frozen BK191.out 0
                                    have hfz71_1 := blk_frozen BK191.out 1
                                    have hfz71_2 := blk_frozen BK191.out 2
                                    have hfz71_3 := blk_frozen BK191.out 3
                                    go_wp2
                                    repeat (go_quiet (fail); try go_wp2)
                                    go_ret
                                    exact ⟨by first | rfl | (simp [errW_none, errW_some, erT_no, erV_no, erT_at, erV_at] <;> rfl) | (simp only [← hji14]; first | rfl | (simp [errW_none, errW_some, erT_no, erV_no, erT_at, erV_at] <;> rfl)) | (simp [*, errW_none, errW_some, erT_no, erV_no, erT_at, erV_at] <;> rfl), by repeat (first | (with_reducible first | exact HB.out | apply below_alloc | apply pw_below_drewN | apply below_drew1 | refine below_set ?_ GE179.out | refine below_set ?_ GE191.out) | exact HB.out)⟩
                                · rw [if_neg c62] at H
                                  have c62b0 : decide (((rd_T34 t180 (ji14)).f1) ≤ x99_2) = false := decide_eq_false c62
                                  clear c62
                                  by_cases c72 : (rd x6_1 x99_2) = 0
                                  · rw [if_pos c72] at H
                                    have c72b0 : ((rd x6_1 x99_2) == 0) = true := beq_iff_eq.mpr c72
                                    have c72b1 : ((rd x6_1 x99_2) != 0) = false := bne_eq_false_iff_eq.mpr c72
                                    clear c72
                                    by_cases c73 : x99_2 < (t185.length : Int)
                                    · rw [if_pos c73] at H
                                      have c73b0 : decide (x99_2 < (t185.length : Int)) = true := decide_eq_true c73
                                      clear c73
                                      by_cases c74 : ((decide ((rd t185 x99_2) < 0)) != (0 == 0)) = true
                                      · rw [if_pos c74] at H
                                        have c74b0 : ((decide ((rd t185 x99_2) < 0)) != (0 == 0)) = true := c74
                                        have c74n : decide ((rd t185 x99_2) < 0) = false := by simpa using c74b0
                                        (try (have c74b1 : decide ((decide ((rd t185 x99_2) < 0)) = (0 == 0)) = false := by simpa using c74))
                                        (try (have c74b2 : ((decide ((rd t185 x99_2) < 0)) == (0 == 0)) = false := by simpa using c74))
                                        (try (have c74b3 : (((decide ((rd t185 x99_2) < 0)) = (0 == 0)) = False) := by simpa using c74))
                                        clear c74
                                        obtain rfl := Option.some.inj H
                                        have p204 : 0 ≤ (x99_2 : Int) := of_decide_eq_true (by first | (with_reducible assumption) | assumption)
                                        have q204 : x99_2 < (x6_1.length : Int) := of_decide_eq_true (by first | (with_reducible assumption) | assumption)
                                        obtain ⟨ad204, e204, hx204_0⟩ := Kd.at_int (Kd.R_reads' HO_97.out).2.2 x99_2 p204 q204
                                        cases e204
                                        replace p204 := eq_true p204
                                        replace q204 := eq_true q204
                                        have hnb75 := NB191_179.out
                                        have hnc75 := NB179_191.out
                                        have hcz76_0 : wr.cell? ⟨gb191, 0, none⟩ = some (.int .i64 ((rd_T34 t180 (ji14)).f0)) := (blk_cell BK191.out 0).trans rfl
                                        have hcz76_1 : wr.cell? ⟨gb191, 1, none⟩ = some (.int .i64 ((rd_T34 t180 (ji14)).f1)) := (blk_cell BK191.out 1).trans rfl
                                        have hcz76_2 : wr.cell? ⟨gb191, 2, none⟩ = some (.int .i64 ((rd_T34 t180 (ji14)).f2)) := (blk_cell BK191.out 2).trans rfl
                                        have hcz76_3 : wr.cell? ⟨gb191, 3, none⟩ = some (.slice A190_3 ((rd_T34 t180 (ji14)).f3).length c190_3) := (blk_cell BK191.out 3).trans rfl
                                        have hfz76_0 := blk_frozen BK191.out 0
                                        have hfz76_1 := blk_frozen BK191.out 1
                                        have hfz76_2 := blk_frozen BK191.out 2
                                        have hfz76_3 := blk_frozen BK191.out 3
                                        have p206 : 0 ≤ (x99_2 : Int) := of_decide_eq_true (by first | (with_reducible assumption) | assumption)
                                        have q206 : x99_2 < (t185.length : Int) := of_decide_eq_true (by first | (with_reducible assumption) | assumption)
                                        obtain ⟨ad206, e206, hx206_0⟩ := Kd.at_int (Kd.R_reads' HO_3.out).2.2 x99_2 p206 q206
                                        cases e206
                                        replace p206 := eq_true p206
                                        replace q206 := eq_true q206
                                        go_wp2
                                        repeat (go_quiet (fail); try go_wp2)
                                        go_ret
                                        exact ⟨by first | rfl | (simp [errW_none, errW_some, erT_no, erV_no, erT_at, erV_at] <;> rfl) | (simp only [← hji14]; first | rfl | (simp [errW_none, errW_some, erT_no, erV_no, erT_at, erV_at] <;> rfl)) | (simp [*, errW_none, errW_some, erT_no, erV_no, erT_at, erV_at] <;> rfl), by repeat (first | (with_reducible first | exact HB.out | apply below_alloc | apply pw_below_drewN | apply below_drew1 | refine below_set ?_ GE179.out | refine below_set ?_ GE191.out) | exact HB.out)⟩
                                      · rw [if_neg c74] at H
                                        have c74b0 : ((decide ((rd t185 x99_2) < 0)) != (0 == 0)) = false := by simpa using c74
                                        have c74n : decide ((rd t185 x99_2) < 0) = true := by simpa using c74b0
                                        (try (have c74b1 : decide ((decide ((rd t185 x99_2) < 0)) = (0 == 0)) = true := by simpa using c74))
                                        (try (have c74b2 : ((decide ((rd t185 x99_2) < 0)) == (0 == 0)) = true := by simpa using c74))
                                        clear c74
                                        have H' := Aside0.mk H
                                        clear H
                                        have p204 : 0 ≤ (x99_2 : Int) := of_decide_eq_true (by first | (with_reducible assumption) | assumption)
                                        have q204 : x99_2 < (x6_1.length : Int) := of_decide_eq_true (by first | (with_reducible assumption) | assumption)
                                        obtain ⟨ad204, e204, hx204_0⟩ := Kd.at_int (Kd.R_reads' HO_97.out).2.2 x99_2 p204 q204
                                        cases e204
                                        replace p204 := eq_true p204
                                        replace q204 := eq_true q204
                                        have hnb77 := NB191_179.out
                                        have hnc77 := NB179_191.out
                                        have hcz78_0 : wr.cell? ⟨gb191, 0, none⟩ = some (.int .i64 ((rd_T34 t180 (ji14)).f0)) := (blk_cell BK191.out 0).trans rfl
                                        have hcz78_1 : wr.cell? ⟨gb191, 1, none⟩ = some (.int .i64 ((rd_T34 t180 (ji14)).f1)) := (blk_cell BK191.out 1).trans rfl
                                        have hcz78_2 : wr.cell? ⟨gb191, 2, none⟩ = some (.int .i64 ((rd_T34 t180 (ji14)).f2)) := (blk_cell BK191.out 2).trans rfl
                                        have hcz78_3 : wr.cell? ⟨gb191, 3, none⟩ = some (.slice A190_3 ((rd_T34 t180 (ji14)).f3).length c190_3) := (blk_cell BK191.out 3).trans rfl
                                        have hfz78_0 := blk_frozen BK191.out 0
                                        have hfz78_1 := blk_frozen BK191.out 1
                                        have hfz78_2 := blk_frozen BK191.out 2
                                        have hfz78_3 := blk_frozen BK191.out 3
                                        have p206 : 0 ≤ (x99_2 : Int) := of_decide_eq_true (by first | (with_reducible assumption) | assumption)
                                        have q206 : x99_2 < (t185.length : Int) := of_decide_eq_true (by first | (with_reducible assumption) | assumption)
                                        obtain ⟨ad206, e206, hx206_0⟩ := Kd.at_int (Kd.R_reads' HO_3.out).2.2 x99_2 p206 q206
                                        cases e206
                                        replace p206 := eq_true p206
                                        replace q206 := eq_true q206
                                        go_wp2
                                        repeat (go_quiet (fail); try go_wp2)
                                        go_roundg k2
                                        case measure => have := HK1.out; have := HK2.out; omega
                                        case rel => exact ⟨(wrap64 (x99_2 + 1)), (by first | rfl | (simp; done) | (simp [*]; done)), H', ⟨by have := HK1.out; have := HK2.out; omega⟩, ⟨by (with_reducible repeat (first | apply Kd.R_alloc | apply Kd.R_drewN | apply Kd.R_drew)); exact HO_3.out⟩, ⟨by (with_reducible repeat (first | apply Kd.R_alloc | apply Kd.R_drewN | apply Kd.R_drew)); exact HO_97.out⟩, ⟨by (with_reducible repeat (first | apply Kd.N_alloc | apply Kd.N_drewN | apply Kd.N_drew)); exact HO_180000.out⟩, ⟨by (with_reducible repeat (first | refine blk_drewN ?_ _ | refine blk_drew ?_ | refine blk_alloc ?_ _)); exact BK179.out⟩, ⟨by (with_reducible repeat (first | refine blk_drewN ?_ _ | refine blk_drew ?_ | refine blk_alloc ?_ _)); exact BK191.out⟩, ⟨by repeat (first | (with_reducible first | exact HB.out | apply below_alloc | apply pw_below_drewN | apply below_drew1 | refine below_set ?_ GE179.out | refine below_set ?_ GE191.out) | exact HB.out)⟩⟩
                                    · rw [if_neg c73] at H
                                      exact absurd H (by simp)
                                  · rw [if_neg c72] at H
                                    have c72b0 : ((rd x6_1 x99_2) == 0) = false := beq_eq_false_iff_ne.mpr c72
                                    have c72b1 : ((rd x6_1 x99_2) != 0) = true := bne_iff_ne.mpr c72
                                    obtain rfl := Option.some.inj H
                                    have p204 : 0 ≤ (x99_2 : Int) := of_decide_eq_true (by first | (with_reducible assumption) | assumption)
                                    have q204 : x99_2 < (x6_1.length : Int) := of_decide_eq_true (by first | (with_reducible assumption) | assumption)
                                    obtain ⟨ad204, e204, hx204_0⟩ := Kd.at_int (Kd.R_reads' HO_97.out).2.2 x99_2 p204 q204
                                    cases e204
                                    replace p204 := eq_true p204
                                    replace q204 := eq_true q204
                                    have hnb79 := NB191_179.out
                                    have hnc79 := NB179_191.out
                                    have hcz80_0 : wr.cell? ⟨gb191, 0, none⟩ = some (.int .i64 ((rd_T34 t180 (ji14)).f0)) := (blk_cell BK191.out 0).trans rfl
                                    have hcz80_1 : wr.cell? ⟨gb191, 1, none⟩ = some (.int .i64 ((rd_T34 t180 (ji14)).f1)) := (blk_cell BK191.out 1).trans rfl
                                    have hcz80_2 : wr.cell? ⟨gb191, 2, none⟩ = some (.int .i64 ((rd_T34 t180 (ji14)).f2)) := (blk_cell BK191.out 2).trans rfl
                                    have hcz80_3 : wr.cell? ⟨gb191, 3, none⟩ = some (.slice A190_3 ((rd_T34 t180 (ji14)).f3).length c190_3) := (blk_cell BK191.out 3).trans rfl
                                    have hfz80_0 := blk_frozen BK191.out 0
                                    have hfz80_1 := blk_frozen BK191.out 1
                                    have hfz80_2 := blk_frozen BK191.out 2
                                    have hfz80_3 := blk_frozen BK191.out 3
                                    go_wp2
                                    repeat (go_quiet (fail); try go_wp2)
                                    go_ret
                                    exact ⟨by first | rfl | (simp [errW_none, errW_some, erT_no, erV_no, erT_at, erV_at] <;> rfl) | (simp only [← hji14]; first | rfl | (simp [errW_none, errW_some, erT_no, erV_no, erT_at, erV_at] <;> rfl)) | (simp [*, errW_none, errW_some, erT_no, erV_no, erT_at, erV_at] <;> rfl), by repeat (first | (with_reducible first | exact HB.out | apply below_alloc | apply pw_below_drewN | apply below_drew1 | refine below_set ?_ GE179.out | refine below_set ?_ GE191.out) | exact HB.out)⟩
                              · rw [if_neg c61] at H
                                exact absurd H (by simp)
                            · rw [if_neg c60] at H
                              exact absurd H (by simp)
                          · rw [if_neg c59] at H
                            have c59b0 : decide (x99_2 < (x6_1.length : Int)) = false := decide_eq_false c59
                            clear c59
                            replace H := Option.bind_eq_some_iff.mp H
                            obtain ⟨⟨t207, t210⟩, A810, H⟩ := H
                            replace H : (cavillaw13_TreeWhole.l3 k2 t207 t210 t207 (t207.length : Int) 0 t180) = some r := H
                            have A81 := Aside0.mk A810
                            clear A810
                            have H' := Aside0.mk H
                            clear H
                            have hnb82 := NB179_191.out
                            have hnc82 := NB191_179.out
                            have hcz83_0 : wr.cell? ⟨gb179, 0, none⟩ = some (.slice (some ad190) t180.length co23) := (blk_cell BK179.out 0).trans rfl
                            have hfz83_0 := blk_frozen BK179.out 0
                            go_wp2_with (first | (go_at_call 14; (with_reducible refine (tree_Parents.calls k2 _ _ t180 t207 t210 _ ?side1 ?side2 A81.out).mono ?_); (case side1 => repeat (first | exact (Kd.N_reads' HO_180000.out).2.2 | (with_reducible refine Kd.C_alloc ?_ _) | (with_reducible refine Kd.C_drewN ?_ _) | (with_reducible refine Kd.C_drew ?_))); (case side2 => exact (Kd.N_reads' HO_180000.out).2.1); rintro e w84 ⟨v208, rfl, ho0, hb⟩; have n0_ := Aside0.mk (Kd.R_elder' (by (with_reducible repeat (first | apply Kd.R_alloc | apply Kd.R_drewN | apply Kd.R_drew)); exact HO_3.out) (Kd.R_base ho0) hb); have n1_ := Aside0.mk (Kd.R_elder' (by (with_reducible repeat (first | apply Kd.R_alloc | apply Kd.R_drewN | apply Kd.R_drew)); exact HO_97.out) (Kd.R_base ho0) hb); have n2_ := Aside0.mk (Kd.N_elder' (by (with_reducible repeat (first | apply Kd.N_alloc | apply Kd.N_drewN | apply Kd.N_drew)); exact HO_180000.out) (Kd.R_base ho0) hb); have n3_ := Aside0.mk (Kd.R_lower (Kd.R_new' (Kd.R_new' ho0 (Kd.R_lt (by (with_reducible repeat (first | apply Kd.R_alloc | apply Kd.R_drewN | apply Kd.R_drew)); exact HO_3.out))) (Kd.R_lt (by (with_reducible repeat (first | apply Kd.R_alloc | apply Kd.R_drewN | apply Kd.R_drew)); exact HO_97.out))) (below_size (by repeat (first | (with_reducible first | exact HB.out | apply below_alloc | apply pw_below_drewN | apply below_drew1 | refine below_set ?_ GE179.out | refine below_set ?_ GE191.out) | exact HB.out)))); have n4_ := Aside0.mk (blk_below (g := gb179) (o := .cells #[.slice (some ad190) t180.length co23] 24 (0, 0)) (by (with_reducible repeat (first | refine blk_drewN ?_ _ | refine blk_drew ?_ | refine blk_alloc ?_ _)); exact BK179.out) hb); have n5_ := Aside0.mk (blk_below (g := gb191) (o := .cells #[.int .i64 ((rd_T34 t180 (ji14)).f0), .int .i64 ((rd_T34 t180 (ji14)).f1), .int .i64 ((rd_T34 t180 (ji14)).f2), .slice A190_3 ((rd_T34 t180 (ji14)).f3).length c190_3] 34 (0, 0)) (by (with_reducible repeat (first | refine blk_drewN ?_ _ | refine blk_drew ?_ | refine blk_alloc ?_ _)); exact BK191.out) hb); have n6_ := Aside0.mk (below_step (by repeat (first | (with_reducible first | exact HB.out | apply below_alloc | apply pw_below_drewN | apply below_drew1 | refine below_set ?_ GE179.out | refine below_set ?_ GE191.out) | exact HB.out)) hb); clear HO_3; clear HO_97; clear HO_180000; clear BK179; clear BK191; clear HB; have HO_3 := n0_; have HO_97 := n1_; have HO_180000 := n2_; have HO209 := n3_; have BK179 := n4_; have BK191 := n5_; have HB := n6_; clear n0_ n1_ n2_ n3_ n4_ n5_ n6_; (try clear hb); (try clear hb2); (try clear hk); (try clear hi); (try clear ho0); (try simp only [errW_none, errW_some, erT_no, erV_no, erT_at, erV_at]); obtain ⟨Ao85, co85, eo85⟩ := Kd.R_slice HO209.out; subst eo85))
                            repeat (go_quiet (first | (go_at_call 14; (with_reducible refine (tree_Parents.calls k2 _ _ t180 t207 t210 _ ?side1 ?side2 A81.out).mono ?_); (case side1 => repeat (first | exact (Kd.N_reads' HO_180000.out).2.2 | (with_reducible refine Kd.C_alloc ?_ _) | (with_reducible refine Kd.C_drewN ?_ _) | (with_reducible refine Kd.C_drew ?_))); (case side2 => exact (Kd.N_reads' HO_180000.out).2.1); rintro e w84 ⟨v208, rfl, ho0, hb⟩; have n0_ := Aside0.mk (Kd.R_elder' (by (with_reducible repeat (first | apply Kd.R_alloc | apply Kd.R_drewN | apply Kd.R_drew)); exact HO_3.out) (Kd.R_base ho0) hb); have n1_ := Aside0.mk (Kd.R_elder' (by (with_reducible repeat (first | apply Kd.R_alloc | apply Kd.R_drewN | apply Kd.R_drew)); exact HO_97.out) (Kd.R_base ho0) hb); have n2_ := Aside0.mk (Kd.N_elder' (by (with_reducible repeat (first | apply Kd.N_alloc | apply Kd.N_drewN | apply Kd.N_drew)); exact HO_180000.out) (Kd.R_base ho0) hb); have n3_ := Aside0.mk (Kd.R_lower (Kd.R_new' (Kd.R_new' ho0 (Kd.R_lt (by (with_reducible repeat (first | apply Kd.R_alloc | apply Kd.R_drewN | apply Kd.R_drew)); exact HO_3.out))) (Kd.R_lt (by (with_reducible repeat (first | apply Kd.R_alloc | apply Kd.R_drewN | apply Kd.R_drew)); exact HO_97.out))) (below_size (by repeat (first | (with_reducible first | exact HB.out | apply below_alloc | apply pw_below_drewN | apply below_drew1 | refine below_set ?_ GE179.out | refine below_set ?_ GE191.out) | exact HB.out)))); have n4_ := Aside0.mk (blk_below (g := gb179) (o := .cells #[.slice (some ad190) t180.length co23] 24 (0, 0)) (by (with_reducible repeat (first | refine blk_drewN ?_ _ | refine blk_drew ?_ | refine blk_alloc ?_ _)); exact BK179.out) hb); have n5_ := Aside0.mk (blk_below (g := gb191) (o := .cells #[.int .i64 ((rd_T34 t180 (ji14)).f0), .int .i64 ((rd_T34 t180 (ji14)).f1), .int .i64 ((rd_T34 t180 (ji14)).f2), .slice A190_3 ((rd_T34 t180 (ji14)).f3).length c190_3] 34 (0, 0)) (by (with_reducible repeat (first | refine blk_drewN ?_ _ | refine blk_drew ?_ | refine blk_alloc ?_ _)); exact BK191.out) hb); have n6_ := Aside0.mk (below_step (by repeat (first | (with_reducible first | exact HB.out | apply below_alloc | apply pw_below_drewN | apply below_drew1 | refine below_set ?_ GE179.out | refine below_set ?_ GE191.out) | exact HB.out)) hb); clear HO_3; clear HO_97; clear HO_180000; clear BK179; clear BK191; clear HB; have HO_3 := n0_; have HO_97 := n1_; have HO_180000 := n2_; have HO209 := n3_; have BK179 := n4_; have BK191 := n5_; have HB := n6_; clear n0_ n1_ n2_ n3_ n4_ n5_ n6_; (try clear hb); (try clear hb2); (try clear hk); (try clear hi); (try clear ho0); (try simp only [errW_none, errW_some, erT_no, erV_no, erT_at, erV_at]); obtain ⟨Ao85, co85, eo85⟩ := Kd.R_slice HO209.out; subst eo85)); try go_wp2_with (first | (go_at_call 14; (with_reducible refine (tree_Parents.calls k2 _ _ t180 t207 t210 _ ?side1 ?side2 A81.out).mono ?_); (case side1 => repeat (first | exact (Kd.N_reads' HO_180000.out).2.2 | (with_reducible refine Kd.C_alloc ?_ _) | (with_reducible refine Kd.C_drewN ?_ _) | (with_reducible refine Kd.C_drew ?_))); (case side2 => exact (Kd.N_reads' HO_180000.out).2.1); rintro e w84 ⟨v208, rfl, ho0, hb⟩; have n0_ := Aside0.mk (Kd.R_elder' (by (with_reducible repeat (first | apply Kd.R_alloc | apply Kd.R_drewN | apply Kd.R_drew)); exact HO_3.out) (Kd.R_base ho0) hb); have n1_ := Aside0.mk (Kd.R_elder' (by (with_reducible repeat (first | apply Kd.R_alloc | apply Kd.R_drewN | apply Kd.R_drew)); exact HO_97.out) (Kd.R_base ho0) hb); have n2_ := Aside0.mk (Kd.N_elder' (by (with_reducible repeat (first | apply Kd.N_alloc | apply Kd.N_drewN | apply Kd.N_drew)); exact HO_180000.out) (Kd.R_base ho0) hb); have n3_ := Aside0.mk (Kd.R_lower (Kd.R_new' (Kd.R_new' ho0 (Kd.R_lt (by (with_reducible repeat (first | apply Kd.R_alloc | apply Kd.R_drewN | apply Kd.R_drew)); exact HO_3.out))) (Kd.R_lt (by (with_reducible repeat (first | apply Kd.R_alloc | apply Kd.R_drewN | apply Kd.R_drew)); exact HO_97.out))) (below_size (by repeat (first | (with_reducible first | exact HB.out | apply below_alloc | apply pw_below_drewN | apply below_drew1 | refine below_set ?_ GE179.out | refine below_set ?_ GE191.out) | exact HB.out)))); have n4_ := Aside0.mk (blk_below (g := gb179) (o := .cells #[.slice (some ad190) t180.length co23] 24 (0, 0)) (by (with_reducible repeat (first | refine blk_drewN ?_ _ | refine blk_drew ?_ | refine blk_alloc ?_ _)); exact BK179.out) hb); have n5_ := Aside0.mk (blk_below (g := gb191) (o := .cells #[.int .i64 ((rd_T34 t180 (ji14)).f0), .int .i64 ((rd_T34 t180 (ji14)).f1), .int .i64 ((rd_T34 t180 (ji14)).f2), .slice A190_3 ((rd_T34 t180 (ji14)).f3).length c190_3] 34 (0, 0)) (by (with_reducible repeat (first | refine blk_drewN ?_ _ | refine blk_drew ?_ | refine blk_alloc ?_ _)); exact BK191.out) hb); have n6_ := Aside0.mk (below_step (by repeat (first | (with_reducible first | exact HB.out | apply below_alloc | apply pw_below_drewN | apply below_drew1 | refine below_set ?_ GE179.out | refine below_set ?_ GE191.out) | exact HB.out)) hb); clear HO_3; clear HO_97; clear HO_180000; clear BK179; clear BK191; clear HB; have HO_3 := n0_; have HO_97 := n1_; have HO_180000 := n2_; have HO209 := n3_; have BK179 := n4_; have BK191 := n5_; have HB := n6_; clear n0_ n1_ n2_ n3_ n4_ n5_ n6_; (try clear hb); (try clear hb2); (try clear hk); (try clear hi); (try clear ho0); (try simp only [errW_none, errW_some, erT_no, erV_no, erT_at, erV_at]); obtain ⟨Ao85, co85, eo85⟩ := Kd.R_slice HO209.out; subst eo85)))
                            go_loopg [129] k2 (fun kq v129 w' => ∃ (x129_3 : Int), v129 = .int .i64 x129_3 ∧ Aside0 (cavillaw13_TreeWhole.l3 kq t207 t210 t207 (t207.length : Int) x129_3 t180 = some r) ∧ Aside0 (kq ≤ k2) ∧ Aside0 (Kd.R (Kd.int .i64) 3 w' w.heap.size (fun _ => True) (.slice Ao85 t207.length co85) t207) ∧ Aside0 (Kd.R (Kd.int .i64) 3 w' w.heap.size (fun _ => True) (.slice Ao85 t207.length co85) t207) ∧ Aside0 (Kd.N k34 34 w' w.heap.size (fun k_ => some k_ ≠ ((.slice Ao85 t207.length co85) : Value).ownBlock ∧ some k_ ≠ ((.slice Ao85 t207.length co85) : Value).ownBlock ∧ k_ ≠ gb179 ∧ k_ ≠ gb191) (.slice (some ad190) t180.length co23) t180) ∧ Aside0 (w'.heap[gb179]? = some (.cells #[(.slice (some ad190) t180.length co23)] 24 (0, 0))) ∧ Aside0 (w'.heap[gb191]? = some (.cells #[.int .i64 ((rd_T34 t180 (ji14)).f0), .int .i64 ((rd_T34 t180 (ji14)).f1), .int .i64 ((rd_T34 t180 (ji14)).f2), (.slice A190_3 ((rd_T34 t180 (ji14)).f3).length c190_3)] 34 (0, 0))) ∧ Aside0 (Below w.heap.size w w'))
                            case atStart => exact ⟨(0), (by first | rfl | (simp; done) | (simp [*]; done)), H', ⟨Nat.le_refl _⟩, ⟨by (with_reducible repeat (first | apply Kd.R_alloc | apply Kd.R_drewN | apply Kd.R_drew)); exact Kd.R_mono HO209.out (fun _ hk => trivial)⟩, ⟨by (with_reducible repeat (first | apply Kd.R_alloc | apply Kd.R_drewN | apply Kd.R_drew)); exact Kd.R_mono HO209.out (fun _ hk => trivial)⟩, ⟨by (with_reducible repeat (first | apply Kd.N_alloc | apply Kd.N_drewN | apply Kd.N_drew)); exact Kd.N_mono HO_180000.out (fun _ hk => ⟨hk.2, ⟨hk.2, ⟨hk.1.2.2.1, hk.1.2.2.2⟩⟩⟩)⟩, ⟨by (with_reducible repeat (first | refine blk_drewN ?_ _ | refine blk_drew ?_ | refine blk_alloc ?_ _)); exact BK179.out⟩, ⟨by (with_reducible repeat (first | refine blk_drewN ?_ _ | refine blk_drew ?_ | refine blk_alloc ?_ _)); exact BK191.out⟩, ⟨by repeat (first | (with_reducible first | exact HB.out | apply below_alloc | apply pw_below_drewN | apply below_drew1 | refine below_set ?_ GE179.out | refine below_set ?_ GE191.out) | exact HB.out)⟩⟩
                            case round =>
                              clear H'
                              try clear c1
                              try clear p1
                              try clear q1
                              try clear hx1
                              try clear p2
                              try clear q2
                              try clear hx2
                              try clear c3
                              try clear c4
                              try clear c5
                              try clear p5
                              try clear q5
                              try clear hx5
                              try clear hf5
                              try clear c6
                              try clear p6
                              try clear c7
                              try clear c8
                              try clear c15
                              try clear c15b0
                              try clear c16
                              try clear c16b0
                              try clear c17
                              try clear c17b0
                              try clear c17b1
                              try clear c18
                              try clear c18b0
                              try clear c18b1
                              try clear q18
                              try clear c19
                              try clear c19b0
                              try clear c19b1
                              try clear p19
                              try clear q19
                              try clear hx19
                              try clear p20
                              try clear q20
                              try clear hx20
                              try clear c30
                              try clear c36
                              try clear c36b0
                              try clear c38
                              try clear c42
                              try clear c42b0
                              try clear c43
                              try clear c43b0
                              try clear c44
                              try clear c44b0
                              try clear c45
                              try clear c45b0
                              try clear c46
                              try clear c46b0
                              try clear c47
                              try clear c47b0
                              try clear c48
                              try clear c48b0
                              try clear c49
                              try clear c49b0
                              try clear c49b1
                              try clear c50
                              try clear c50b0
                              try clear p51
                              try clear q51
                              try clear hx51
                              try clear hf51
                              try clear c55
                              try clear c59
                              try clear c59b0
                              try clear c60
                              try clear c60b0
                              try clear c61
                              try clear c61b0
                              try clear c62
                              try clear c62b0
                              try clear c63
                              try clear c63b0
                              try clear c63b1
                              try clear c64
                              try clear c64b0
                              try clear p64
                              try clear c65
                              try clear c65b0
                              try clear c65b1
                              try clear c65b2
                              try clear c66
                              try clear c68
                              try clear c70
                              try clear c72
                              try clear c72b0
                              try clear c72b1
                              try clear c73
                              try clear c73b0
                              try clear c74
                              try clear c74b0
                              try clear c74b1
                              try clear c74b2
                              try clear c75
                              try clear c77
                              try clear c79
                              try clear c82
                              try clear hcz10_0
                              try clear hcz21_0
                              try clear hcz24_0
                              try clear hcz26_0
                              try clear hcz28_0
                              try clear hcz31_0
                              try clear hcz31_1
                              try clear hcz31_2
                              try clear hcz31_3
                              try clear hcz35_0
                              try clear hcz39_0
                              try clear hcz56_0
                              try clear hcz67_0
                              try clear hcz67_1
                              try clear hcz67_2
                              try clear hcz67_3
                              try clear hcz69_0
                              try clear hcz69_1
                              try clear hcz69_2
                              try clear hcz69_3
                              try clear hcz71_0
                              try clear hcz71_1
                              try clear hcz71_2
                              try clear hcz71_3
                              try clear hcz76_0
                              try clear hcz76_1
                              try clear hcz76_2
                              try clear hcz76_3
                              try clear hcz78_0
                              try clear hcz78_1
                              try clear hcz78_2
                              try clear hcz78_3
                              try clear hcz7_0
                              try clear hcz80_0
                              try clear hcz80_1
                              try clear hcz80_2
                              try clear hcz80_3
                              try clear hcz83_0
                              try clear hfz10_0
                              try clear hfz21_0
                              try clear hfz24_0
                              try clear hfz26_0
                              try clear hfz28_0
                              try clear hfz31_0
                              try clear hfz31_1
                              try clear hfz31_2
                              try clear hfz31_3
                              try clear hfz35_0
                              try clear hfz39_0
                              try clear hfz56_0
                              try clear hfz67_0
                              try clear hfz67_1
                              try clear hfz67_2
                              try clear hfz67_3
                              try clear hfz69_0
                              try clear hfz69_1
                              try clear hfz69_2
                              try clear hfz69_3
                              try clear hfz71_0
                              try clear hfz71_1
                              try clear hfz71_2
                              try clear hfz71_3
                              try clear hfz76_0
                              try clear hfz76_1
                              try clear hfz76_2
                              try clear hfz76_3
                              try clear hfz78_0
                              try clear hfz78_1
                              try clear hfz78_2
                              try clear hfz78_3
                              try clear hfz7_0
                              try clear hfz80_0
                              try clear hfz80_1
                              try clear hfz80_2
                              try clear hfz80_3
                              try clear hfz83_0
                              try clear hx190_0
                              try clear hx190_1
                              try clear hx190_2
                              try clear hx190_3
                              try clear hx200_0
                              try clear hx201_0
                              try clear hx202_0
                              try clear hx204_0
                              try clear hx205_0
                              try clear hx206_0
                              try clear hx51_0
                              try clear p1
                              try clear p19
                              try clear p190
                              try clear p2
                              try clear p20
                              try clear p200
                              try clear p201
                              try clear p202
                              try clear p204
                              try clear p205
                              try clear p206
                              try clear p5
                              try clear p51
                              try clear p6
                              try clear q1
                              try clear q18
                              try clear q189
                              try clear q19
                              try clear q190
                              try clear q199
                              try clear q2
                              try clear q20
                              try clear q200
                              try clear q201
                              try clear q202
                              try clear q204
                              try clear q205
                              try clear q206
                              try clear q5
                              try clear q51
                              obtain ⟨x129_3, rfl, HA, HK3, HO_15, HO_127, HO_180000, BK179, BK191, HB⟩ := hrel
                              cases gk with
                              | zero => exact absurd HA.out (by simp [cavillaw13_TreeWhole.l3])
                              | succ k3 =>
                                have H := HA.out
                                clear HA
                                simp only [cavillaw13_TreeWhole.l3] at H
                                by_cases c86 : x129_3 < (t207.length : Int)
                                · rw [if_pos c86] at H
                                  have c86b0 : decide (x129_3 < (t207.length : Int)) = true := decide_eq_true c86
                                  clear c86
                                  by_cases c87 : 0 ≤ x129_3
                                  · rw [if_pos c87] at H
                                    have c87b0 : decide (0 ≤ x129_3) = true := decide_eq_true c87
                                    clear c87
                                    by_cases c88 : x129_3 < (t207.length : Int)
                                    · rw [if_pos c88] at H
                                      have c88b0 : decide (x129_3 < (t207.length : Int)) = true := decide_eq_true c88
                                      clear c88
                                      by_cases c89 : (rd t207 x129_3) ≥ 0
                                      · rw [if_pos c89] at H
                                        have c89b0 : decide (0 ≤ (rd t207 x129_3)) = true := decide_eq_true c89
                                        clear c89
                                        by_cases c90 : 0 ≤ (rd t207 x129_3)
                                        · rw [if_pos c90] at H
                                          have c90b0 : decide (0 ≤ (rd t207 x129_3)) = true := decide_eq_true c90
                                          clear c90
                                          by_cases c91 : (rd t207 x129_3) < (t180.length : Int)
                                          · rw [if_pos c91] at H
                                            have c91b0 : decide ((rd t207 x129_3) < (t180.length : Int)) = true := decide_eq_true c91
                                            clear c91
                                            by_cases c92 : x129_3 < (t180.length : Int)
                                            · rw [if_pos c92] at H
                                              have c92b0 : decide (x129_3 < (t180.length : Int)) = true := decide_eq_true c92
                                              clear c92
                                              by_cases c93 : ((rd_T34 t180 (rd t207 x129_3)).f1) > ((rd_T34 t180 x129_3).f1)
                                              · rw [if_pos c93] at H
                                                have c93b0 : decide (((rd_T34 t180 x129_3).f1) < ((rd_T34 t180 (rd t207 x129_3)).f1)) = true := decide_eq_true c93
                                                clear c93
                                                obtain rfl := Option.some.inj H
                                                have p211 : 0 ≤ (x129_3 : Int) := of_decide_eq_true (by first | (with_reducible assumption) | assumption)
                                                have q211 : x129_3 < (t207.length : Int) := of_decide_eq_true (by first | (with_reducible assumption) | assumption)
                                                obtain ⟨ad211, e211, hx211_0⟩ := Kd.at_int (Kd.R_reads' HO_127.out).2.2 x129_3 p211 q211
                                                cases e211
                                                replace p211 := eq_true p211
                                                replace q211 := eq_true q211
                                                have hnb94 := NB179_191.out
                                                have hnc94 := NB191_179.out
                                                have hcz95_0 : wr.cell? ⟨gb179, 0, none⟩ = some (.slice (some ad190) t180.length co23) := (blk_cell BK179.out 0).trans rfl
                                                have hfz95_0 := blk_frozen BK179.out 0
                                                have p212 : 0 ≤ ((rd t207 x129_3) : Int) := of_decide_eq_true (by first | (with_reducible assumption) | assumption)
                                                have q212 : (rd t207 x129_3) < (t180.length : Int) := of_decide_eq_true (by first | (with_reducible assumption) | assumption)
                                                obtain ⟨ad212, A212_3, c212_3, e212, hx212_0, hx212_1, hx212_2, hx212_3, hl212_3, hi212_3⟩ := at_T34 (Kd.N_reads' HO_180000.out).2.2 (rd t207 x129_3) p212 q212
                                                obtain rfl : ad190 = ad212 := (by injection e212)
                                                obtain ⟨ce212, hce212, hMe212, hcc212⟩ := Kd.N_get HO_180000.out z34 (rd t207 x129_3) p212 (by first | exact q212 | exact of_decide_eq_true (by first | (with_reducible assumption) | assumption) | (have e_ := (Kd.N_reads' HO_180000.out).1; omega))
                                                obtain ⟨ua212_3, uc212_3, rfl, ul212_3, ge212_3⟩ := k34_openF hMe212
                                                have hv212_3 := hcc212 3 _ rfl
                                                rw [add_field _ _ 3 (by omega)] at hv212_3
                                                replace hv212_3 := Option.some.inj (hv212_3.symm.trans hx212_3)
                                                injection hv212_3 with hva_ hvn_ hvc_
                                                rw [hva_] at ge212_3
                                                rw [hvc_] at ul212_3
                                                have HL212_3 := Aside0.mk (show Kd.V (Kd.int .i64) 3 _ w.heap.size _ _ ((rd_T34 t180 (rd t207 x129_3)).f3) from Kd.V_mk ul212_3 ge212_3)
                                                clear hva_ hvn_ hvc_ ge212_3 ul212_3
                                                clear hcc212 hce212
                                                have HR212_3 := Aside0.mk hi212_3
                                                have HC212_3 := Aside0.mk hl212_3
                                                clear hi212_3 hl212_3
                                                replace p212 := eq_true p212
                                                replace q212 := eq_true q212
                                                have p213 : 0 ≤ (x129_3 : Int) := of_decide_eq_true (by first | (with_reducible assumption) | assumption)
                                                have q213 : x129_3 < (t180.length : Int) := of_decide_eq_true (by first | (with_reducible assumption) | assumption)
                                                obtain ⟨ad213, A213_3, c213_3, e213, hx213_0, hx213_1, hx213_2, hx213_3, hl213_3, hi213_3⟩ := at_T34 (Kd.N_reads' HO_180000.out).2.2 x129_3 p213 q213
                                                obtain rfl : ad190 = ad213 := (by injection e213)
                                                obtain ⟨ce213, hce213, hMe213, hcc213⟩ := Kd.N_get HO_180000.out z34 x129_3 p213 (by first | exact q213 | exact of_decide_eq_true (by first | (with_reducible assumption) | assumption) | (have e_ := (Kd.N_reads' HO_180000.out).1; omega))
                                                obtain ⟨ua213_3, uc213_3, rfl, ul213_3, ge213_3⟩ := k34_openF hMe213
                                                have hv213_3 := hcc213 3 _ rfl
                                                rw [add_field _ _ 3 (by omega)] at hv213_3
                                                replace hv213_3 := Option.some.inj (hv213_3.symm.trans hx213_3)
                                                injection hv213_3 with hva_ hvn_ hvc_
                                                rw [hva_] at ge213_3
                                                rw [hvc_] at ul213_3
                                                have HL213_3 := Aside0.mk (show Kd.V (Kd.int .i64) 3 _ w.heap.size _ _ ((rd_T34 t180 x129_3).f3) from Kd.V_mk ul213_3 ge213_3)
                                                clear hva_ hvn_ hvc_ ge213_3 ul213_3
                                                clear hcc213 hce213
                                                have HR213_3 := Aside0.mk hi213_3
                                                have HC213_3 := Aside0.mk hl213_3
                                                clear hi213_3 hl213_3
                                                replace p213 := eq_true p213
                                                replace q213 := eq_true q213
                                                go_wp2
                                                repeat (go_quiet (fail); try go_wp2)
                                                go_ret
                                                exact ⟨by first | rfl | (simp [errW_none, errW_some, erT_no, erV_no, erT_at, erV_at] <;> rfl) | (simp only [← hji14]; first | rfl | (simp [errW_none, errW_some, erT_no, erV_no, erT_at, erV_at] <;> rfl)) | (simp [*, errW_none, errW_some, erT_no, erV_no, erT_at, erV_at] <;> rfl), by repeat (first | (with_reducible first | exact HB.out | apply below_alloc | apply pw_below_drewN | apply below_drew1 | refine below_set ?_ GE179.out | refine below_set ?_ GE191.out) | exact HB.out)⟩
                                              · rw [if_neg c93] at H
                                                have c93b0 : decide (((rd_T34 t180 x129_3).f1) < ((rd_T34 t180 (rd t207 x129_3)).f1)) = false := decide_eq_false c93
                                                clear c93
                                                by_cases c96 : ((rd_T34 t180 (rd t207 x129_3)).f2) < ((rd_T34 t180 x129_3).f2)
                                                · rw [if_pos c96] at H
                                                  have c96b0 : decide (((rd_T34 t180 (rd t207 x129_3)).f2) < ((rd_T34 t180 x129_3).f2)) = true := decide_eq_true c96
                                                  clear c96
                                                  obtain rfl := Option.some.inj H
                                                  have p211 : 0 ≤ (x129_3 : Int) := of_decide_eq_true (by first | (with_reducible assumption) | assumption)
                                                  have q211 : x129_3 < (t207.length : Int) := of_decide_eq_true (by first | (with_reducible assumption) | assumption)
                                                  obtain ⟨ad211, e211, hx211_0⟩ := Kd.at_int (Kd.R_reads' HO_127.out).2.2 x129_3 p211 q211
                                                  cases e211
                                                  replace p211 := eq_true p211
                                                  replace q211 := eq_true q211
                                                  have hnb97 := NB179_191.out
                                                  have hnc97 := NB191_179.out
                                                  have hcz98_0 : wr.cell? ⟨gb179, 0, none⟩ = some (.slice (some ad190) t180.length co23) := (blk_cell BK179.out 0).trans rfl
                                                  have hfz98_0 := blk_frozen BK179.out 0
                                                  have p212 : 0 ≤ ((rd t207 x129_3) : Int) := of_decide_eq_true (by first | (with_reducible assumption) | assumption)
                                                  have q212 : (rd t207 x129_3) < (t180.length : Int) := of_decide_eq_true (by first | (with_reducible assumption) | assumption)
                                                  obtain ⟨ad212, A212_3, c212_3, e212, hx212_0, hx212_1, hx212_2, hx212_3, hl212_3, hi212_3⟩ := at_T34 (Kd.N_reads' HO_180000.out).2.2 (rd t207 x129_3) p212 q212
                                                  obtain rfl : ad190 = ad212 := (by injection e212)
                                                  obtain ⟨ce212, hce212, hMe212, hcc212⟩ := Kd.N_get HO_180000.out z34 (rd t207 x129_3) p212 (by first | exact q212 | exact of_decide_eq_true (by first | (with_reducible assumption) | assumption) | (have e_ := (Kd.N_reads' HO_180000.out).1; omega))
                                                  obtain ⟨ua212_3, uc212_3, rfl, ul212_3, ge212_3⟩ := k34_openF hMe212
                                                  have hv212_3 := hcc212 3 _ rfl
                                                  rw [add_field _ _ 3 (by omega)] at hv212_3
                                                  replace hv212_3 := Option.some.inj (hv212_3.symm.trans hx212_3)
                                                  injection hv212_3 with hva_ hvn_ hvc_
                                                  rw [hva_] at ge212_3
                                                  rw [hvc_] at ul212_3
                                                  have HL212_3 := Aside0.mk (show Kd.V (Kd.int .i64) 3 _ w.heap.size _ _ ((rd_T34 t180 (rd t207 x129_3)).f3) from Kd.V_mk ul212_3 ge212_3)
                                                  clear hva_ hvn_ hvc_ ge212_3 ul212_3
                                                  clear hcc212 hce212
                                                  have HR212_3 := Aside0.mk hi212_3
                                                  have HC212_3 := Aside0.mk hl212_3
                                                  clear hi212_3 hl212_3
                                                  replace p212 := eq_true p212
                                                  replace q212 := eq_true q212
                                                  have p213 : 0 ≤ (x129_3 : Int) := of_decide_eq_true (by first | (with_reducible assumption) | assumption)
                                                  have q213 : x129_3 < (t180.length : Int) := of_decide_eq_true (by first | (with_reducible assumption) | assumption)
                                                  obtain ⟨ad213, A213_3, c213_3, e213, hx213_0, hx213_1, hx213_2, hx213_3, hl213_3, hi213_3⟩ := at_T34 (Kd.N_reads' HO_180000.out).2.2 x129_3 p213 q213
                                                  obtain rfl : ad190 = ad213 := (by injection e213)
                                                  obtain ⟨ce213, hce213, hMe213, hcc213⟩ := Kd.N_get HO_180000.out z34 x129_3 p213 (by first | exact q213 | exact of_decide_eq_true (by first | (with_reducible assumption) | assumption) | (have e_ := (Kd.N_reads' HO_180000.out).1; omega))
                                                  obtain ⟨ua213_3, uc213_3, rfl, ul213_3, ge213_3⟩ := k34_openF hMe213
                                                  have hv213_3 := hcc213 3 _ rfl
                                                  rw [add_field _ _ 3 (by omega)] at hv213_3
                                                  replace hv213_3 := Option.some.inj (hv213_3.symm.trans hx213_3)
                                                  injection hv213_3 with hva_ hvn_ hvc_
                                                  rw [hva_] at ge213_3
                                                  rw [hvc_] at ul213_3
                                                  have HL213_3 := Aside0.mk (show Kd.V (Kd.int .i64) 3 _ w.heap.size _ _ ((rd_T34 t180 x129_3).f3) from Kd.V_mk ul213_3 ge213_3)
                                                  clear hva_ hvn_ hvc_ ge213_3 ul213_3
                                                  clear hcc213 hce213
                                                  have HR213_3 := Aside0.mk hi213_3
                                                  have HC213_3 := Aside0.mk hl213_3
                                                  clear hi213_3 hl213_3
                                                  replace p213 := eq_true p213
                                                  replace q213 := eq_true q213
                                                  have p214 : 0 ≤ ((rd t207 x129_3) : Int) := of_decide_eq_true (by first | (with_reducible assumption) | assumption)
                                                  have q214 : (rd t207 x129_3) < (t180.length : Int) := of_decide_eq_true (by first | (with_reducible assumption) | assumption)
                                                  obtain ⟨ad214, A214_3, c214_3, e214, hx214_0, hx214_1, hx214_2, hx214_3, hl214_3, hi214_3⟩ := at_T34 (Kd.N_reads' HO_180000.out).2.2 (rd t207 x129_3) p214 q214
                                                  obtain rfl : ad190 = ad214 := (by injection e214)
                                                  obtain ⟨ce214, hce214, hMe214, hcc214⟩ := Kd.N_get HO_180000.out z34 (rd t207 x129_3) p214 (by first | exact q214 | exact of_decide_eq_true (by first | (with_reducible assumption) | assumption) | (have e_ := (Kd.N_reads' HO_180000.out).1; omega))
                                                  obtain ⟨ua214_3, uc214_3, rfl, ul214_3, ge214_3⟩ := k34_openF hMe214
                                                  have hv214_3 := hcc214 3 _ rfl
                                                  rw [add_field _ _ 3 (by omega)] at hv214_3
                                                  replace hv214_3 := Option.some.inj (hv214_3.symm.trans hx214_3)
                                                  injection hv214_3 with hva_ hvn_ hvc_
                                                  rw [hva_] at ge214_3
                                                  rw [hvc_] at ul214_3
                                                  have HL214_3 := Aside0.mk (show Kd.V (Kd.int .i64) 3 _ w.heap.size _ _ ((rd_T34 t180 (rd t207 x129_3)).f3) from Kd.V_mk ul214_3 ge214_3)
                                                  clear hva_ hvn_ hvc_ ge214_3 ul214_3
                                                  clear hcc214 hce214
                                                  have HR214_3 := Aside0.mk hi214_3
                                                  have HC214_3 := Aside0.mk hl214_3
                                                  clear hi214_3 hl214_3
                                                  replace p214 := eq_true p214
                                                  replace q214 := eq_true q214
                                                  have ea_ := Option.some.inj (hx212_3.symm.trans hx214_3)
                                                  injection ea_ with ea_ en_ ec_
                                                  subst ea_
                                                  subst ec_
                                                  clear en_
                                                  have p215 : 0 ≤ (x129_3 : Int) := of_decide_eq_true (by first | (with_reducible assumption) | assumption)
                                                  have q215 : x129_3 < (t180.length : Int) := of_decide_eq_true (by first | (with_reducible assumption) | assumption)
                                                  obtain ⟨ad215, A215_3, c215_3, e215, hx215_0, hx215_1, hx215_2, hx215_3, hl215_3, hi215_3⟩ := at_T34 (Kd.N_reads' HO_180000.out).2.2 x129_3 p215 q215
                                                  obtain rfl : ad190 = ad215 := (by injection e215)
                                                  obtain ⟨ce215, hce215, hMe215, hcc215⟩ := Kd.N_get HO_180000.out z34 x129_3 p215 (by first | exact q215 | exact of_decide_eq_true (by first | (with_reducible assumption) | assumption) | (have e_ := (Kd.N_reads' HO_180000.out).1; omega))
                                                  obtain ⟨ua215_3, uc215_3, rfl, ul215_3, ge215_3⟩ := k34_openF hMe215
                                                  have hv215_3 := hcc215 3 _ rfl
                                                  rw [add_field _ _ 3 (by omega)] at hv215_3
                                                  replace hv215_3 := Option.some.inj (hv215_3.symm.trans hx215_3)
                                                  injection hv215_3 with hva_ hvn_ hvc_
                                                  rw [hva_] at ge215_3
                                                  rw [hvc_] at ul215_3
                                                  have HL215_3 := Aside0.mk (show Kd.V (Kd.int .i64) 3 _ w.heap.size _ _ ((rd_T34 t180 x129_3).f3) from Kd.V_mk ul215_3 ge215_3)
                                                  clear hva_ hvn_ hvc_ ge215_3 ul215_3
                                                  clear hcc215 hce215
                                                  have HR215_3 := Aside0.mk hi215_3
                                                  have HC215_3 := Aside0.mk hl215_3
                                                  clear hi215_3 hl215_3
                                                  replace p215 := eq_true p215
                                                  replace q215 := eq_true q215
                                                  have ea_ := Option.some.inj (hx213_3.symm.trans hx215_3)
                                                  injection ea_ with ea_ en_ ec_
                                                  subst ea_
                                                  subst ec_
                                                  clear en_
                                                  go_wp2
                                                  repeat (go_quiet (fail); try go_wp2)
                                                  go_ret
                                                  exact ⟨by first | rfl | (simp [errW_none, errW_some, erT_no, erV_no, erT_at, erV_at] <;> rfl) | (simp only [← hji14]; first | rfl | (simp [errW_none, errW_some, erT_no, erV_no, erT_at, erV_at] <;> rfl)) | (simp [*, errW_none, errW_some, erT_no, erV_no, erT_at, erV_at] <;> rfl), by repeat (first | (with_reducible first | exact HB.out | apply below_alloc | apply pw_below_drewN | apply below_drew1 | refine below_set ?_ GE179.out | refine below_set ?_ GE191.out) | exact HB.out)⟩
                                                · rw [if_neg c96] at H
                                                  have c96b0 : decide (((rd_T34 t180 (rd t207 x129_3)).f2) < ((rd_T34 t180 x129_3).f2)) = false := decide_eq_false c96
                                                  clear c96
                                                  have H' := Aside0.mk H
                                                  clear H
                                                  have p211 : 0 ≤ (x129_3 : Int) := of_decide_eq_true (by first | (with_reducible assumption) | assumption)
                                                  have q211 : x129_3 < (t207.length : Int) := of_decide_eq_true (by first | (with_reducible assumption) | assumption)
                                                  obtain ⟨ad211, e211, hx211_0⟩ := Kd.at_int (Kd.R_reads' HO_127.out).2.2 x129_3 p211 q211
                                                  cases e211
                                                  replace p211 := eq_true p211
                                                  replace q211 := eq_true q211
                                                  have hnb99 := NB179_191.out
                                                  have hnc99 := NB191_179.out
                                                  have hcz100_0 : wr.cell? ⟨gb179, 0, none⟩ = some (.slice (some ad190) t180.length co23) := (blk_cell BK179.out 0).trans rfl
                                                  have hfz100_0 := blk_frozen BK179.out 0
                                                  have p212 : 0 ≤ ((rd t207 x129_3) : Int) := of_decide_eq_true (by first | (with_reducible assumption) | assumption)
                                                  have q212 : (rd t207 x129_3) < (t180.length : Int) := of_decide_eq_true (by first | (with_reducible assumption) | assumption)
                                                  obtain ⟨ad212, A212_3, c212_3, e212, hx212_0, hx212_1, hx212_2, hx212_3, hl212_3, hi212_3⟩ := at_T34 (Kd.N_reads' HO_180000.out).2.2 (rd t207 x129_3) p212 q212
                                                  obtain rfl : ad190 = ad212 := (by injection e212)
                                                  obtain ⟨ce212, hce212, hMe212, hcc212⟩ := Kd.N_get HO_180000.out z34 (rd t207 x129_3) p212 (by first | exact q212 | exact of_decide_eq_true (by first | (with_reducible assumption) | assumption) | (have e_ := (Kd.N_reads' HO_180000.out).1; omega))
                                                  obtain ⟨ua212_3, uc212_3, rfl, ul212_3, ge212_3⟩ := k34_openF hMe212
                                                  have hv212_3 := hcc212 3 _ rfl
                                                  rw [add_field _ _ 3 (by omega)] at hv212_3
                                                  replace hv212_3 := Option.some.inj (hv212_3.symm.trans hx212_3)
                                                  injection hv212_3 with hva_ hvn_ hvc_
                                                  rw [hva_] at ge212_3
                                                  rw [hvc_] at ul212_3
                                                  have HL212_3 := Aside0.mk (show Kd.V (Kd.int .i64) 3 _ w.heap.size _ _ ((rd_T34 t180 (rd t207 x129_3)).f3) from Kd.V_mk ul212_3 ge212_3)
                                                  clear hva_ hvn_ hvc_ ge212_3 ul212_3
                                                  clear hcc212 hce212
                                                  have HR212_3 := Aside0.mk hi212_3
                                                  have HC212_3 := Aside0.mk hl212_3
                                                  clear hi212_3 hl212_3
                                                  replace p212 := eq_true p212
                                                  replace q212 := eq_true q212
                                                  have p213 : 0 ≤ (x129_3 : Int) := of_decide_eq_true (by first | (with_reducible assumption) | assumption)
                                                  have q213 : x129_3 < (t180.length : Int) := of_decide_eq_true (by first | (with_reducible assumption) | assumption)
                                                  obtain ⟨ad213, A213_3, c213_3, e213, hx213_0, hx213_1, hx213_2, hx213_3, hl213_3, hi213_3⟩ := at_T34 (Kd.N_reads' HO_180000.out).2.2 x129_3 p213 q213
                                                  obtain rfl : ad190 = ad213 := (by injection e213)
                                                  obtain ⟨ce213, hce213, hMe213, hcc213⟩ := Kd.N_get HO_180000.out z34 x129_3 p213 (by first | exact q213 | exact of_decide_eq_true (by first | (with_reducible assumption) | assumption) | (have e_ := (Kd.N_reads' HO_180000.out).1; omega))
                                                  obtain ⟨ua213_3, uc213_3, rfl, ul213_3, ge213_3⟩ := k34_openF hMe213
                                                  have hv213_3 := hcc213 3 _ rfl
                                                  rw [add_field _ _ 3 (by omega)] at hv213_3
                                                  replace hv213_3 := Option.some.inj (hv213_3.symm.trans hx213_3)
                                                  injection hv213_3 with hva_ hvn_ hvc_
                                                  rw [hva_] at ge213_3
                                                  rw [hvc_] at ul213_3
                                                  have HL213_3 := Aside0.mk (show Kd.V (Kd.int .i64) 3 _ w.heap.size _ _ ((rd_T34 t180 x129_3).f3) from Kd.V_mk ul213_3 ge213_3)
                                                  clear hva_ hvn_ hvc_ ge213_3 ul213_3
                                                  clear hcc213 hce213
                                                  have HR213_3 := Aside0.mk hi213_3
                                                  have HC213_3 := Aside0.mk hl213_3
                                                  clear hi213_3 hl213_3
                                                  replace p213 := eq_true p213
                                                  replace q213 := eq_true q213
                                                  have p214 : 0 ≤ ((rd t207 x129_3) : Int) := of_decide_eq_true (by first | (with_reducible assumption) | assumption)
                                                  have q214 : (rd t207 x129_3) < (t180.length : Int) := of_decide_eq_true (by first | (with_reducible assumption) | assumption)
                                                  obtain ⟨ad214, A214_3, c214_3, e214, hx214_0, hx214_1, hx214_2, hx214_3, hl214_3, hi214_3⟩ := at_T34 (Kd.N_reads' HO_180000.out).2.2 (rd t207 x129_3) p214 q214
                                                  obtain rfl : ad190 = ad214 := (by injection e214)
                                                  obtain ⟨ce214, hce214, hMe214, hcc214⟩ := Kd.N_get HO_180000.out z34 (rd t207 x129_3) p214 (by first | exact q214 | exact of_decide_eq_true (by first | (with_reducible assumption) | assumption) | (have e_ := (Kd.N_reads' HO_180000.out).1; omega))
                                                  obtain ⟨ua214_3, uc214_3, rfl, ul214_3, ge214_3⟩ := k34_openF hMe214
                                                  have hv214_3 := hcc214 3 _ rfl
                                                  rw [add_field _ _ 3 (by omega)] at hv214_3
                                                  replace hv214_3 := Option.some.inj (hv214_3.symm.trans hx214_3)
                                                  injection hv214_3 with hva_ hvn_ hvc_
                                                  rw [hva_] at ge214_3
                                                  rw [hvc_] at ul214_3
                                                  have HL214_3 := Aside0.mk (show Kd.V (Kd.int .i64) 3 _ w.heap.size _ _ ((rd_T34 t180 (rd t207 x129_3)).f3) from Kd.V_mk ul214_3 ge214_3)
                                                  clear hva_ hvn_ hvc_ ge214_3 ul214_3
                                                  clear hcc214 hce214
                                                  have HR214_3 := Aside0.mk hi214_3
                                                  have HC214_3 := Aside0.mk hl214_3
                                                  clear hi214_3 hl214_3
                                                  replace p214 := eq_true p214
                                                  replace q214 := eq_true q214
                                                  have ea_ := Option.some.inj (hx212_3.symm.trans hx214_3)
                                                  injection ea_ with ea_ en_ ec_
                                                  subst ea_
                                                  subst ec_
                                                  clear en_
                                                  have p215 : 0 ≤ (x129_3 : Int) := of_decide_eq_true (by first | (with_reducible assumption) | assumption)
                                                  have q215 : x129_3 < (t180.length : Int) := of_decide_eq_true (by first | (with_reducible assumption) | assumption)
                                                  obtain ⟨ad215, A215_3, c215_3, e215, hx215_0, hx215_1, hx215_2, hx215_3, hl215_3, hi215_3⟩ := at_T34 (Kd.N_reads' HO_180000.out).2.2 x129_3 p215 q215
                                                  obtain rfl : ad190 = ad215 := (by injection e215)
                                                  obtain ⟨ce215, hce215, hMe215, hcc215⟩ := Kd.N_get HO_180000.out z34 x129_3 p215 (by first | exact q215 | exact of_decide_eq_true (by first | (with_reducible assumption) | assumption) | (have e_ := (Kd.N_reads' HO_180000.out).1; omega))
                                                  obtain ⟨ua215_3, uc215_3, rfl, ul215_3, ge215_3⟩ := k34_openF hMe215
                                                  have hv215_3 := hcc215 3 _ rfl
                                                  rw [add_field _ _ 3 (by omega)] at hv215_3
                                                  replace hv215_3 := Option.some.inj (hv215_3.symm.trans hx215_3)
                                                  injection hv215_3 with hva_ hvn_ hvc_
                                                  rw [hva_] at ge215_3
                                                  rw [hvc_] at ul215_3
                                                  have HL215_3 := Aside0.mk (show Kd.V (Kd.int .i64) 3 _ w.heap.size _ _ ((rd_T34 t180 x129_3).f3) from Kd.V_mk ul215_3 ge215_3)
                                                  clear hva_ hvn_ hvc_ ge215_3 ul215_3
                                                  clear hcc215 hce215
                                                  have HR215_3 := Aside0.mk hi215_3
                                                  have HC215_3 := Aside0.mk hl215_3
                                                  clear hi215_3 hl215_3
                                                  replace p215 := eq_true p215
                                                  replace q215 := eq_true q215
                                                  have ea_ := Option.some.inj (hx213_3.symm.trans hx215_3)
                                                  injection ea_ with ea_ en_ ec_
                                                  subst ea_
                                                  subst ec_
                                                  clear en_
                                                  go_wp2
                                                  repeat (go_quiet (fail); try go_wp2)
                                                  go_roundg k3
                                                  case measure => have := HK1.out; have := HK2.out; have := HK3.out; omega
                                                  case rel => exact ⟨(wrap64 (x129_3 + 1)), (by first | rfl | (simp; done) | (simp [*]; done)), H', ⟨by have := HK1.out; have := HK2.out; have := HK3.out; omega⟩, ⟨by (with_reducible repeat (first | apply Kd.R_alloc | apply Kd.R_drewN | apply Kd.R_drew)); exact HO_15.out⟩, ⟨by (with_reducible repeat (first | apply Kd.R_alloc | apply Kd.R_drewN | apply Kd.R_drew)); exact HO_127.out⟩, ⟨by (with_reducible repeat (first | apply Kd.N_alloc | apply Kd.N_drewN | apply Kd.N_drew)); exact HO_180000.out⟩, ⟨by (with_reducible repeat (first | refine blk_drewN ?_ _ | refine blk_drew ?_ | refine blk_alloc ?_ _)); exact BK179.out⟩, ⟨by (with_reducible repeat (first | refine blk_drewN ?_ _ | refine blk_drew ?_ | refine blk_alloc ?_ _)); exact BK191.out⟩, ⟨by repeat (first | (with_reducible first | exact HB.out | apply below_alloc | apply pw_below_drewN | apply below_drew1 | refine below_set ?_ GE179.out | refine below_set ?_ GE191.out) | exact HB.out)⟩⟩
                                            · rw [if_neg c92] at H
                                              exact absurd H (by simp)
                                          · rw [if_neg c91] at H
                                            exact absurd H (by simp)
                                        · rw [if_neg c90] at H
                                          exact absurd H (by simp)
                                      · rw [if_neg c89] at H
                                        have c89b0 : decide (0 ≤ (rd t207 x129_3)) = false := decide_eq_false c89
                                        clear c89
                                        have H' := Aside0.mk H
                                        clear H
                                        have p211 : 0 ≤ (x129_3 : Int) := of_decide_eq_true (by first | (with_reducible assumption) | assumption)
                                        have q211 : x129_3 < (t207.length : Int) := of_decide_eq_true (by first | (with_reducible assumption) | assumption)
                                        obtain ⟨ad211, e211, hx211_0⟩ := Kd.at_int (Kd.R_reads' HO_127.out).2.2 x129_3 p211 q211
                                        cases e211
                                        replace p211 := eq_true p211
                                        replace q211 := eq_true q211
                                        go_wp2
                                        repeat (go_quiet (fail); try go_wp2)
                                        go_roundg k3
                                        case measure => have := HK1.out; have := HK2.out; have := HK3.out; omega
                                        case rel => exact ⟨(wrap64 (x129_3 + 1)), (by first | rfl | (simp; done) | (simp [*]; done)), H', ⟨by have := HK1.out; have := HK2.out; have := HK3.out; omega⟩, ⟨by (with_reducible repeat (first | apply Kd.R_alloc | apply Kd.R_drewN | apply Kd.R_drew)); exact HO_15.out⟩, ⟨by (with_reducible repeat (first | apply Kd.R_alloc | apply Kd.R_drewN | apply Kd.R_drew)); exact HO_127.out⟩, ⟨by (with_reducible repeat (first | apply Kd.N_alloc | apply Kd.N_drewN | apply Kd.N_drew)); exact HO_180000.out⟩, ⟨by (with_reducible repeat (first | refine blk_drewN ?_ _ | refine blk_drew ?_ | refine blk_alloc ?_ _)); exact BK179.out⟩, ⟨by (with_reducible repeat (first | refine blk_drewN ?_ _ | refine blk_drew ?_ | refine blk_alloc ?_ _)); exact BK191.out⟩, ⟨by repeat (first | (with_reducible first | exact HB.out | apply below_alloc | apply pw_below_drewN | apply below_drew1 | refine below_set ?_ GE179.out | refine below_set ?_ GE191.out) | exact HB.out)⟩⟩
                                    · rw [if_neg c88] at H
                                      exact absurd H (by simp)
                                  · rw [if_neg c87] at H
                                    exact absurd H (by simp)
                                · rw [if_neg c86] at H
                                  have c86b0 : decide (x129_3 < (t207.length : Int)) = false := decide_eq_false c86
                                  clear c86
                                  rcases t210 with _ | q216
                                  · have H1 : (if (t207.length : Int) = (t180.length : Int) then ((cavillaw13_works.f k3).bind fun t217 => (some t217)) else (some false)) = some r := by rw [if_pos (show (none : Option Er).isNone = true by rfl)] at H; exact H
                                    clear H
                                    have H := H1
                                    clear H1
                                    try simp only [errW_none, errW_some, erT_no, erV_no, erT_at, erV_at]
                                    by_cases c101 : (t207.length : Int) = (t180.length : Int)
                                    · rw [if_pos c101] at H
                                      have c101b0 : ((t207.length : Int) == (t180.length : Int)) = true := beq_iff_eq.mpr c101
                                      have c101b1 : ((t207.length : Int) != (t180.length : Int)) = false := bne_eq_false_iff_eq.mpr c101
                                      have c101b2 : (t207.length == t180.length) = true := by first | simpa using c101 | (simp at c101 ⊢; omega)
                                      clear c101
                                      replace H := Option.bind_eq_some_iff.mp H
                                      obtain ⟨t217, A1020, H⟩ := H
                                      replace H : (some t217) = some r := H
                                      have A102 := Aside0.mk A1020
                                      clear A1020
                                      obtain rfl := Option.some.inj H
                                      have hnb103 := NB179_191.out
                                      have hnc103 := NB191_179.out
                                      have hcz104_0 : wr.cell? ⟨gb179, 0, none⟩ = some (.slice (some ad190) t180.length co23) := (blk_cell BK179.out 0).trans rfl
                                      have hfz104_0 := blk_frozen BK179.out 0
                                      go_wp2_with (first | (go_at_call 11; (with_reducible refine (cavillaw13_works.calls k3  t217 _ A102.out).mono ?_); rintro e w105 ⟨rfl, hb⟩; have n0_ := Aside0.mk (Kd.R_below (by (with_reducible repeat (first | apply Kd.R_alloc | apply Kd.R_drewN | apply Kd.R_drew)); exact HO_15.out) hb); have n1_ := Aside0.mk (Kd.R_below (by (with_reducible repeat (first | apply Kd.R_alloc | apply Kd.R_drewN | apply Kd.R_drew)); exact HO_127.out) hb); have n2_ := Aside0.mk (Kd.N_below (by (with_reducible repeat (first | apply Kd.N_alloc | apply Kd.N_drewN | apply Kd.N_drew)); exact HO_180000.out) hb); have n3_ := Aside0.mk (blk_below (g := gb179) (o := .cells #[.slice (some ad190) t180.length co23] 24 (0, 0)) (by (with_reducible repeat (first | refine blk_drewN ?_ _ | refine blk_drew ?_ | refine blk_alloc ?_ _)); exact BK179.out) hb); have n4_ := Aside0.mk (blk_below (g := gb191) (o := .cells #[.int .i64 ((rd_T34 t180 (ji14)).f0), .int .i64 ((rd_T34 t180 (ji14)).f1), .int .i64 ((rd_T34 t180 (ji14)).f2), .slice A190_3 ((rd_T34 t180 (ji14)).f3).length c190_3] 34 (0, 0)) (by (with_reducible repeat (first | refine blk_drewN ?_ _ | refine blk_drew ?_ | refine blk_alloc ?_ _)); exact BK191.out) hb); have n5_ := Aside0.mk (below_step (by repeat (first | (with_reducible first | exact HB.out | apply below_alloc | apply pw_below_drewN | apply below_drew1 | refine below_set ?_ GE179.out | refine below_set ?_ GE191.out) | exact HB.out)) hb); clear HO_15; clear HO_127; clear HO_180000; clear BK179; clear BK191; clear HB; have HO_15 := n0_; have HO_127 := n1_; have HO_180000 := n2_; have BK179 := n3_; have BK191 := n4_; have HB := n5_; clear n0_ n1_ n2_ n3_ n4_ n5_; (try clear hb); (try clear hb2); (try clear hk); (try clear hi)))
                                      repeat (go_quiet (first | (go_at_call 11; (with_reducible refine (cavillaw13_works.calls k3  t217 _ A102.out).mono ?_); rintro e w105 ⟨rfl, hb⟩; have n0_ := Aside0.mk (Kd.R_below (by (with_reducible repeat (first | apply Kd.R_alloc | apply Kd.R_drewN | apply Kd.R_drew)); exact HO_15.out) hb); have n1_ := Aside0.mk (Kd.R_below (by (with_reducible repeat (first | apply Kd.R_alloc | apply Kd.R_drewN | apply Kd.R_drew)); exact HO_127.out) hb); have n2_ := Aside0.mk (Kd.N_below (by (with_reducible repeat (first | apply Kd.N_alloc | apply Kd.N_drewN | apply Kd.N_drew)); exact HO_180000.out) hb); have n3_ := Aside0.mk (blk_below (g := gb179) (o := .cells #[.slice (some ad190) t180.length co23] 24 (0, 0)) (by (with_reducible repeat (first | refine blk_drewN ?_ _ | refine blk_drew ?_ | refine blk_alloc ?_ _)); exact BK179.out) hb); have n4_ := Aside0.mk (blk_below (g := gb191) (o := .cells #[.int .i64 ((rd_T34 t180 (ji14)).f0), .int .i64 ((rd_T34 t180 (ji14)).f1), .int .i64 ((rd_T34 t180 (ji14)).f2), .slice A190_3 ((rd_T34 t180 (ji14)).f3).length c190_3] 34 (0, 0)) (by (with_reducible repeat (first | refine blk_drewN ?_ _ | refine blk_drew ?_ | refine blk_alloc ?_ _)); exact BK191.out) hb); have n5_ := Aside0.mk (below_step (by repeat (first | (with_reducible first | exact HB.out | apply below_alloc | apply pw_below_drewN | apply below_drew1 | refine below_set ?_ GE179.out | refine below_set ?_ GE191.out) | exact HB.out)) hb); clear HO_15; clear HO_127; clear HO_180000; clear BK179; clear BK191; clear HB; have HO_15 := n0_; have HO_127 := n1_; have HO_180000 := n2_; have BK179 := n3_; have BK191 := n4_; have HB := n5_; clear n0_ n1_ n2_ n3_ n4_ n5_; (try clear hb); (try clear hb2); (try clear hk); (try clear hi))); try go_wp2_with (first | (go_at_call 11; (with_reducible refine (cavillaw13_works.calls k3  t217 _ A102.out).mono ?_); rintro e w105 ⟨rfl, hb⟩; have n0_ := Aside0.mk (Kd.R_below (by (with_reducible repeat (first | apply Kd.R_alloc | apply Kd.R_drewN | apply Kd.R_drew)); exact HO_15.out) hb); have n1_ := Aside0.mk (Kd.R_below (by (with_reducible repeat (first | apply Kd.R_alloc | apply Kd.R_drewN | apply Kd.R_drew)); exact HO_127.out) hb); have n2_ := Aside0.mk (Kd.N_below (by (with_reducible repeat (first | apply Kd.N_alloc | apply Kd.N_drewN | apply Kd.N_drew)); exact HO_180000.out) hb); have n3_ := Aside0.mk (blk_below (g := gb179) (o := .cells #[.slice (some ad190) t180.length co23] 24 (0, 0)) (by (with_reducible repeat (first | refine blk_drewN ?_ _ | refine blk_drew ?_ | refine blk_alloc ?_ _)); exact BK179.out) hb); have n4_ := Aside0.mk (blk_below (g := gb191) (o := .cells #[.int .i64 ((rd_T34 t180 (ji14)).f0), .int .i64 ((rd_T34 t180 (ji14)).f1), .int .i64 ((rd_T34 t180 (ji14)).f2), .slice A190_3 ((rd_T34 t180 (ji14)).f3).length c190_3] 34 (0, 0)) (by (with_reducible repeat (first | refine blk_drewN ?_ _ | refine blk_drew ?_ | refine blk_alloc ?_ _)); exact BK191.out) hb); have n5_ := Aside0.mk (below_step (by repeat (first | (with_reducible first | exact HB.out | apply below_alloc | apply pw_below_drewN | apply below_drew1 | refine below_set ?_ GE179.out | refine below_set ?_ GE191.out) | exact HB.out)) hb); clear HO_15; clear HO_127; clear HO_180000; clear BK179; clear BK191; clear HB; have HO_15 := n0_; have HO_127 := n1_; have HO_180000 := n2_; have BK179 := n3_; have BK191 := n4_; have HB := n5_; clear n0_ n1_ n2_ n3_ n4_ n5_; (try clear hb); (try clear hb2); (try clear hk); (try clear hi))))
                                      go_ret
                                      exact ⟨by first | rfl | (simp [errW_none, errW_some, erT_no, erV_no, erT_at, erV_at] <;> rfl) | (simp only [← hji14]; first | rfl | (simp [errW_none, errW_some, erT_no, erV_no, erT_at, erV_at] <;> rfl)) | (simp [*, errW_none, errW_some, erT_no, erV_no, erT_at, erV_at] <;> rfl), by repeat (first | (with_reducible first | exact HB.out | apply below_alloc | apply pw_below_drewN | apply below_drew1 | refine below_set ?_ GE179.out | refine below_set ?_ GE191.out) | exact HB.out)⟩
                                    · rw [if_neg c101] at H
                                      have c101b0 : ((t207.length : Int) == (t180.length : Int)) = false := beq_eq_false_iff_ne.mpr c101
                                      have c101b1 : ((t207.length : Int) != (t180.length : Int)) = true := bne_iff_ne.mpr c101
                                      have c101b2 : (t207.length == t180.length) = false := by first | simpa using c101 | (simp at c101 ⊢; omega)
                                      obtain rfl := Option.some.inj H
                                      have hnb106 := NB179_191.out
                                      have hnc106 := NB191_179.out
                                      have hcz107_0 : wr.cell? ⟨gb179, 0, none⟩ = some (.slice (some ad190) t180.length co23) := (blk_cell BK179.out 0).trans rfl
                                      have hfz107_0 := blk_frozen BK179.out 0
                                      go_wp2
                                      repeat (go_quiet (fail); try go_wp2)
                                      go_ret
                                      exact ⟨by first | rfl | (simp [errW_none, errW_some, erT_no, erV_no, erT_at, erV_at] <;> rfl) | (simp only [← hji14]; first | rfl | (simp [errW_none, errW_some, erT_no, erV_no, erT_at, erV_at] <;> rfl)) | (simp [*, errW_none, errW_some, erT_no, erV_no, erT_at, erV_at] <;> rfl), by repeat (first | (with_reducible first | exact HB.out | apply below_alloc | apply pw_below_drewN | apply below_drew1 | refine below_set ?_ GE179.out | refine below_set ?_ GE191.out) | exact HB.out)⟩
                                  · have H1 : (some false) = some r := by rw [if_neg (show ¬ (some q216).isNone = true by simp)] at H; exact H
                                    clear H
                                    have H := H1
                                    clear H1
                                    try simp only [errW_none, errW_some, erT_no, erV_no, erT_at, erV_at]
                                    obtain rfl := Option.some.inj H
                                    go_wp2
                                    repeat (go_quiet (fail); try go_wp2)
                                    go_ret
                                    exact ⟨by first | rfl | (simp [errW_none, errW_some, erT_no, erV_no, erT_at, erV_at] <;> rfl) | (simp only [← hji14]; first | rfl | (simp [errW_none, errW_some, erT_no, erV_no, erT_at, erV_at] <;> rfl)) | (simp [*, errW_none, errW_some, erT_no, erV_no, erT_at, erV_at] <;> rfl), by repeat (first | (with_reducible first | exact HB.out | apply below_alloc | apply pw_below_drewN | apply below_drew1 | refine below_set ?_ GE179.out | refine below_set ?_ GE191.out) | exact HB.out)⟩
              · rw [if_neg c19] at H
                exact absurd H (by simp)
            · rw [if_neg c18] at H
              exact absurd H (by simp)
          · rw [if_neg c17] at H
            have c17b0 : ((t185.length : Int) == ((rd_T34 t180 (ji14)).f2)) = false := beq_eq_false_iff_ne.mpr c17
            have c17b1 : ((t185.length : Int) != ((rd_T34 t180 (ji14)).f2)) = true := bne_iff_ne.mpr c17
            obtain rfl := Option.some.inj H
            go_enter Tryd.func3, Tryd.ntmps3
            go_wp2_with (first | ((with_reducible refine gate_dst (N := 1) rfl ?_); (try (refine gate_guard (by rfl) ?_; dsimp only)); refine box_event ?hg (N := 1) ?hd (cs := #[.slice A0_0 l0_0.length c0_0]) (t := 24) ?hr ?_; (case hd => rfl); (case hg => rfl); (case hr => first | (go_simp; done) | (go_simp; rfl)); intro gb179 hg w108 hbox hb; have n0_ := Aside0.mk (below_step (by repeat (first | (with_reducible first | exact HB.out | apply below_alloc | apply pw_below_drewN | apply below_drew1) | exact HB.out)) hb); have n1_ := Aside0.mk (hbox); have n2_ := Aside0.mk ((by rw [hg]; exact (below_size (by repeat (first | (with_reducible first | exact HB.out | apply below_alloc | apply pw_below_drewN | apply below_drew1) | exact HB.out))) : w.heap.size ≤ gb179)); have n3_ := Aside0.mk ((by rw [hg]; exact (below_size (by repeat (first | (with_reducible first | exact HB.out | apply below_alloc | apply pw_below_drewN | apply below_drew1) | exact HB.out))) : w.heap.size ≤ gb179)); clear HB; have HB := n0_; have BK179 := n1_; have GW179 := n2_; have GE179 := n3_; clear n0_ n1_ n2_ n3_; clear hb hbox hg; have hcz109_0 : w108.cell? ⟨gb179, 0, none⟩ = some (.slice A0_0 l0_0.length c0_0) := (blk_cell BK179.out 0).trans rfl; have hfz109_0 := blk_frozen BK179.out 0) | (go_at_call 9; (with_reducible refine (cavillaw13_Few.calls k (fun k_ => k_ < w.heap.size) _ _ l0_0 t180 _ ?side1 A2.out).mono ?_); (case side1 => exact Kd.V_mk HC0_0.out (Kd.F_below (Kd.C_F k34_heap HR0_0.out) (by repeat (first | (with_reducible first | exact HB.out | apply below_alloc | apply pw_below_drewN | apply below_drew1 | refine below_set ?_ GE179.out) | exact HB.out)))); rintro e w110 ⟨v181, rfl, ho0, hb⟩; have n0_ := Aside0.mk (Kd.N_lower (Kd.N_mono (ok' := fun k_ => k_ ≠ gb179) ho0 (fun k_ hk_ => Or.elim hk_ (fun hs_ => fun e_ => Nat.not_le.2 hs_ (by rw [e_]; exact GW179.out)) (fun hn_ => (Kd.freshB (g := gb179) (o := .cells #[.slice A0_0 l0_0.length c0_0] 24 (0, 0)) (by (with_reducible repeat (first | refine blk_drewN ?_ _ | refine blk_drew ?_ | refine blk_alloc ?_ _)); exact BK179.out) k_ hn_)))) (below_size (by repeat (first | (with_reducible first | exact HB.out | apply below_alloc | apply pw_below_drewN | apply below_drew1 | refine below_set ?_ GE179.out) | exact HB.out)))); have n1_ := Aside0.mk (blk_below (g := gb179) (o := .cells #[.slice A0_0 l0_0.length c0_0] 24 (0, 0)) (by (with_reducible repeat (first | refine blk_drewN ?_ _ | refine blk_drew ?_ | refine blk_alloc ?_ _)); exact BK179.out) hb); have n2_ := Aside0.mk (below_step (by repeat (first | (with_reducible first | exact HB.out | apply below_alloc | apply pw_below_drewN | apply below_drew1 | refine below_set ?_ GE179.out) | exact HB.out)) hb); clear BK179; clear HB; have HO182 := n0_; have BK179 := n1_; have HB := n2_; clear n0_ n1_ n2_; (try clear hb); (try clear hb2); (try clear hk); (try clear hi); (try clear ho0); obtain ⟨Ao111, co111, eo111⟩ := Kd.N_slice HO182.out; subst eo111; have hcz112_0 : w110.cell? ⟨gb179, 0, none⟩ = some (.slice A0_0 l0_0.length c0_0) := (blk_cell BK179.out 0).trans rfl; have hfz112_0 := blk_frozen BK179.out 0) | (go_at_call 10; (with_reducible refine (cavillaw13_far.calls _ _ t180 false _ ?side1 ?side2 A3.out).mono ?_); (case side1 => refine (Kd.N_reads' (e := 34) (base := w.heap.size) (ok := fun k_ => k_ ≠ gb179) (n := t180.length) (c := co111) ?_).2.2; exact (by (with_reducible repeat (first | apply Kd.N_alloc | apply Kd.N_drewN | apply Kd.N_drew)); exact (Kd.N_mono (Kd.N_far (p := ⟨gb179, 0, none⟩) (Kd.N_mono HO182.out (fun k_ hk => (⟨hk, hk⟩ : _ ∧ k_ ≠ gb179))) (fun _ hk => hk.2) (.slice Ao111 t180.length co111)) (fun _ h_ => h_.1)))); (case side2 => exact (Kd.N_reads' HO182.out).2.1); rintro e w113 ⟨rfl, hb⟩; have n0_ := Aside0.mk (Kd.N_below (by (with_reducible repeat (first | apply Kd.N_alloc | apply Kd.N_drewN | apply Kd.N_drew)); exact (Kd.N_mono (Kd.N_far (p := ⟨gb179, 0, none⟩) (Kd.N_mono HO182.out (fun k_ hk => (⟨hk, hk⟩ : _ ∧ k_ ≠ gb179))) (fun _ hk => hk.2) (.slice Ao111 t180.length co111)) (fun _ h_ => h_.1))) hb); have n1_ := Aside0.mk (blk_below (g := gb179) (o := .cells #[.slice Ao111 t180.length co111] 24 (0, 0)) (by (with_reducible repeat (first | refine blk_drewN ?_ _ | refine blk_drew ?_ | refine blk_alloc ?_ _)); refine blk_put (cs := #[.slice A0_0 l0_0.length c0_0]) ?_ 0 _ rfl; (with_reducible repeat (first | refine blk_drewN ?_ _ | refine blk_drew ?_ | refine blk_alloc ?_ _)); exact BK179.out) hb); have n2_ := Aside0.mk (below_step (by repeat (first | (with_reducible first | exact HB.out | apply below_alloc | apply pw_below_drewN | apply below_drew1 | refine below_set ?_ GE179.out) | exact HB.out)) hb); clear HO182; clear BK179; clear HB; have HO182 := n0_; have BK179 := n1_; have HB := n2_; clear n0_ n1_ n2_; (try clear hb); (try clear hb2); (try clear hk); (try clear hi); have hcz114_0 : w113.cell? ⟨gb179, 0, none⟩ = some (.slice Ao111 t180.length co111) := (blk_cell BK179.out 0).trans rfl; have hfz114_0 := blk_frozen BK179.out 0) | (go_at_call 12; (with_reducible refine (tree_Owners.calls k _ _ t180 t185 none _ ?side1 ?side2 A13.out).mono ?_); (case side1 => repeat (first | exact (Kd.N_reads' HO182.out).2.2 | (with_reducible refine Kd.C_alloc ?_ _) | (with_reducible refine Kd.C_drewN ?_ _) | (with_reducible refine Kd.C_drew ?_))); (case side2 => exact (Kd.N_reads' HO182.out).2.1); rintro e w115 ⟨v186, rfl, ho0, hb⟩; have n0_ := Aside0.mk (Kd.N_elder' (by (with_reducible repeat (first | apply Kd.N_alloc | apply Kd.N_drewN | apply Kd.N_drew)); exact HO182.out) (Kd.R_base ho0) hb); have n1_ := Aside0.mk (Kd.R_lower ho0 (below_size (by repeat (first | (with_reducible first | exact HB.out | apply below_alloc | apply pw_below_drewN | apply below_drew1 | refine below_set ?_ GE179.out) | exact HB.out)))); have n2_ := Aside0.mk (blk_below (g := gb179) (o := .cells #[.slice Ao111 t180.length co111] 24 (0, 0)) (by (with_reducible repeat (first | refine blk_drewN ?_ _ | refine blk_drew ?_ | refine blk_alloc ?_ _)); exact BK179.out) hb); have n3_ := Aside0.mk (below_step (by repeat (first | (with_reducible first | exact HB.out | apply below_alloc | apply pw_below_drewN | apply below_drew1 | refine below_set ?_ GE179.out) | exact HB.out)) hb); clear HO182; clear BK179; clear HB; have HO182 := n0_; have HO187 := n1_; have BK179 := n2_; have HB := n3_; clear n0_ n1_ n2_ n3_; (try clear hb); (try clear hb2); (try clear hk); (try clear hi); (try clear ho0); (try simp only [errW_none, errW_some, erT_no, erV_no, erT_at, erV_at]); have hcz116_0 : w115.cell? ⟨gb179, 0, none⟩ = some (.slice Ao111 t180.length co111) := (blk_cell BK179.out 0).trans rfl; have hfz116_0 := blk_frozen BK179.out 0; have p190 : 0 ≤ ((ji14) : Int) := of_decide_eq_true (by first | (with_reducible assumption) | assumption); have q190 : (ji14) < (t180.length : Int) := of_decide_eq_true (by first | (with_reducible assumption) | assumption); obtain ⟨ad190, A190_3, c190_3, e190, hx190_0, hx190_1, hx190_2, hx190_3, hl190_3, hi190_3⟩ := at_T34 (Kd.N_reads' HO182.out).2.2 (ji14) p190 q190; cases e190; obtain ⟨ce190, hce190, hMe190, hcc190⟩ := Kd.N_get HO182.out z34 (ji14) p190 (by first | exact q190 | exact of_decide_eq_true (by first | (with_reducible assumption) | assumption) | (have e_ := (Kd.N_reads' HO182.out).1; omega)); obtain ⟨ua190_3, uc190_3, rfl, ul190_3, ge190_3⟩ := k34_openF hMe190; have hv190_3 := hcc190 3 _ rfl; rw [add_field _ _ 3 (by omega)] at hv190_3; replace hv190_3 := Option.some.inj (hv190_3.symm.trans hx190_3); injection hv190_3 with hva_ hvn_ hvc_; rw [hva_] at ge190_3; rw [hvc_] at ul190_3; have HL190_3 := Aside0.mk (show Kd.V (Kd.int .i64) 3 _ w.heap.size _ _ ((rd_T34 t180 (ji14)).f3) from Kd.V_mk ul190_3 ge190_3); clear hva_ hvn_ hvc_ ge190_3 ul190_3; clear hcc190 hce190; have HR190_3 := Aside0.mk hi190_3; have HC190_3 := Aside0.mk hl190_3; clear hi190_3 hl190_3; replace p190 := eq_true p190; replace q190 := eq_true q190) | ((with_reducible refine gate_dst (N := 5) rfl ?_); (try (refine gate_guard (by rfl) ?_; dsimp only)); refine box_event ?hg (N := 5) ?hd (cs := #[.int .i64 0, .int .i64 0, .int .i64 0, .slice none 0 0]) (t := 34) ?hr ?_; (case hd => rfl); (case hg => rfl); (case hr => first | (go_simp; done) | (go_simp; rfl)); intro gb191 hg w117 hbox hb; have n0_ := Aside0.mk (Kd.N_below (Kd.N_elderB (by (with_reducible repeat (first | apply Kd.N_alloc | apply Kd.N_drewN | apply Kd.N_drew)); exact HO182.out) gb191 (Nat.le_of_eq hg.symm)) hb); have n1_ := Aside0.mk (Kd.R_below (by (with_reducible repeat (first | apply Kd.R_alloc | apply Kd.R_drewN | apply Kd.R_drew)); exact HO187.out) hb); have n2_ := Aside0.mk (Kd.V_below (Kd.V_elderB (by (with_reducible repeat (first | apply Kd.V_alloc | apply Kd.V_drewN | apply Kd.V_drew)); exact HL190_3.out) gb191 (Nat.le_of_eq hg.symm)) hb); have n3_ := Aside0.mk (blk_below (g := gb179) (o := .cells #[.slice (some ad190) t180.length co111] 24 (0, 0)) (by (with_reducible repeat (first | refine blk_drewN ?_ _ | refine blk_drew ?_ | refine blk_alloc ?_ _)); exact BK179.out) hb); have n4_ := Aside0.mk (Kd.C_below (by repeat (first | (with_reducible exact HR190_3.out) | (with_reducible refine Kd.C_alloc ?_ _) | (with_reducible refine Kd.C_drewN ?_ _) | (with_reducible refine Kd.C_drew ?_) | exact HR190_3.out)) hb); have n5_ := Aside0.mk (below_step (by repeat (first | (with_reducible first | exact HB.out | apply below_alloc | apply pw_below_drewN | apply below_drew1 | refine below_set ?_ GE179.out) | exact HB.out)) hb); have n6_ := Aside0.mk (hbox); have n7_ := Aside0.mk ((by rw [hg]; exact (below_size (by repeat (first | (with_reducible first | exact HB.out | apply below_alloc | apply pw_below_drewN | apply below_drew1 | refine below_set ?_ GE179.out) | exact HB.out))) : w.heap.size ≤ gb191)); have n8_ := Aside0.mk ((by rw [hg]; exact (below_size (by repeat (first | (with_reducible first | exact HB.out | apply below_alloc | apply pw_below_drewN | apply below_drew1 | refine below_set ?_ GE179.out) | exact HB.out))) : w.heap.size ≤ gb191)); have n9_ := Aside0.mk ((by rw [hg]; exact Nat.ne_of_lt (blk_lt (g := gb179) (o := .cells #[.slice (some ad190) t180.length co111] 24 (0, 0)) (by (with_reducible repeat (first | refine blk_drewN ?_ _ | refine blk_drew ?_ | refine blk_alloc ?_ _)); exact BK179.out)) : gb179 ≠ gb191)); have n10_ := Aside0.mk ((by rw [hg]; exact Nat.ne_of_gt (blk_lt (g := gb179) (o := .cells #[.slice (some ad190) t180.length co111] 24 (0, 0)) (by (with_reducible repeat (first | refine blk_drewN ?_ _ | refine blk_drew ?_ | refine blk_alloc ?_ _)); exact BK179.out)) : gb191 ≠ gb179)); clear HO182; clear HO187; clear HL190_3; clear BK179; clear HR190_3; clear HB; have HO182 := n0_; have HO187 := n1_; have HL190_3 := n2_; have BK179 := n3_; have HR190_3 := n4_; have HB := n5_; have BK191 := n6_; have GW191 := n7_; have GE191 := n8_; have NB179_191 := n9_; have NB191_179 := n10_; clear n0_ n1_ n2_ n3_ n4_ n5_ n6_ n7_ n8_ n9_ n10_; clear hb hbox hg; have hnb118 := NB191_179.out; have hnc118 := NB179_191.out; have hcz119_0 : w117.cell? ⟨gb191, 0, none⟩ = some (.int .i64 0) := (blk_cell BK191.out 0).trans rfl; have hcz119_1 : w117.cell? ⟨gb191, 1, none⟩ = some (.int .i64 0) := (blk_cell BK191.out 1).trans rfl; have hcz119_2 : w117.cell? ⟨gb191, 2, none⟩ = some (.int .i64 0) := (blk_cell BK191.out 2).trans rfl; have hcz119_3 : w117.cell? ⟨gb191, 3, none⟩ = some (.slice none 0 0) := (blk_cell BK191.out 3).trans rfl; have hfz119_0 := blk_frozen BK191.out 0; have hfz119_1 := blk_frozen BK191.out 1; have hfz119_2 := blk_frozen BK191.out 2; have hfz119_3 := blk_frozen BK191.out 3; obtain ⟨Ao120, co120, eo120⟩ := Kd.R_slice HO187.out; subst eo120))
            go_ret
            exact ⟨by first | rfl | (simp [errW_none, errW_some, erT_no, erV_no, erT_at, erV_at] <;> rfl) | (simp only [← hji14]; first | rfl | (simp [errW_none, errW_some, erT_no, erV_no, erT_at, erV_at] <;> rfl)) | (simp [*, errW_none, errW_some, erT_no, erV_no, erT_at, erV_at] <;> rfl), by repeat (first | (with_reducible first | exact HB.out | apply below_alloc | apply pw_below_drewN | apply below_drew1 | refine below_set ?_ GE179.out | refine below_set ?_ GE191.out) | exact HB.out)⟩
        · rw [if_neg c16] at H
          exact absurd H (by simp)
      · rw [if_neg c15] at H
        exact absurd H (by simp)
    · have H1 : (if (t185.length : Int) = 0 then ((cavillaw13_works.f k).bind fun t218 => (some t218)) else (some false)) = some r := by rw [if_neg (show ¬ (some q189).isNone = true by simp)] at H; exact H
      clear H
      have H := H1
      clear H1
      try simp only [errW_none, errW_some, erT_no, erV_no, erT_at, erV_at]
      by_cases c121 : (t185.length : Int) = 0
      · rw [if_pos c121] at H
        have c121b0 : ((t185.length : Int) == 0) = true := beq_iff_eq.mpr c121
        have c121b1 : ((t185.length : Int) != 0) = false := bne_eq_false_iff_eq.mpr c121
        clear c121
        replace H := Option.bind_eq_some_iff.mp H
        obtain ⟨t218, A1220, H⟩ := H
        replace H : (some t218) = some r := H
        have A122 := Aside0.mk A1220
        clear A1220
        obtain rfl := Option.some.inj H
        go_enter Tryd.func3, Tryd.ntmps3
        go_wp2_with (first | ((with_reducible refine gate_dst (N := 1) rfl ?_); (try (refine gate_guard (by rfl) ?_; dsimp only)); refine box_event ?hg (N := 1) ?hd (cs := #[.slice A0_0 l0_0.length c0_0]) (t := 24) ?hr ?_; (case hd => rfl); (case hg => rfl); (case hr => first | (go_simp; done) | (go_simp; rfl)); intro gb179 hg w123 hbox hb; have n0_ := Aside0.mk (below_step (by repeat (first | (with_reducible first | exact HB.out | apply below_alloc | apply pw_below_drewN | apply below_drew1) | exact HB.out)) hb); have n1_ := Aside0.mk (hbox); have n2_ := Aside0.mk ((by rw [hg]; exact (below_size (by repeat (first | (with_reducible first | exact HB.out | apply below_alloc | apply pw_below_drewN | apply below_drew1) | exact HB.out))) : w.heap.size ≤ gb179)); have n3_ := Aside0.mk ((by rw [hg]; exact (below_size (by repeat (first | (with_reducible first | exact HB.out | apply below_alloc | apply pw_below_drewN | apply below_drew1) | exact HB.out))) : w.heap.size ≤ gb179)); clear HB; have HB := n0_; have BK179 := n1_; have GW179 := n2_; have GE179 := n3_; clear n0_ n1_ n2_ n3_; clear hb hbox hg; have hcz124_0 : w123.cell? ⟨gb179, 0, none⟩ = some (.slice A0_0 l0_0.length c0_0) := (blk_cell BK179.out 0).trans rfl; have hfz124_0 := blk_frozen BK179.out 0) | (go_at_call 9; (with_reducible refine (cavillaw13_Few.calls k (fun k_ => k_ < w.heap.size) _ _ l0_0 t180 _ ?side1 A2.out).mono ?_); (case side1 => exact Kd.V_mk HC0_0.out (Kd.F_below (Kd.C_F k34_heap HR0_0.out) (by repeat (first | (with_reducible first | exact HB.out | apply below_alloc | apply pw_below_drewN | apply below_drew1 | refine below_set ?_ GE179.out) | exact HB.out)))); rintro e w125 ⟨v181, rfl, ho0, hb⟩; have n0_ := Aside0.mk (Kd.N_lower (Kd.N_mono (ok' := fun k_ => k_ ≠ gb179) ho0 (fun k_ hk_ => Or.elim hk_ (fun hs_ => fun e_ => Nat.not_le.2 hs_ (by rw [e_]; exact GW179.out)) (fun hn_ => (Kd.freshB (g := gb179) (o := .cells #[.slice A0_0 l0_0.length c0_0] 24 (0, 0)) (by (with_reducible repeat (first | refine blk_drewN ?_ _ | refine blk_drew ?_ | refine blk_alloc ?_ _)); exact BK179.out) k_ hn_)))) (below_size (by repeat (first | (with_reducible first | exact HB.out | apply below_alloc | apply pw_below_drewN | apply below_drew1 | refine below_set ?_ GE179.out) | exact HB.out)))); have n1_ := Aside0.mk (blk_below (g := gb179) (o := .cells #[.slice A0_0 l0_0.length c0_0] 24 (0, 0)) (by (with_reducible repeat (first | refine blk_drewN ?_ _ | refine blk_drew ?_ | refine blk_alloc ?_ _)); exact BK179.out) hb); have n2_ := Aside0.mk (below_step (by repeat (first | (with_reducible first | exact HB.out | apply below_alloc | apply pw_below_drewN | apply below_drew1 | refine below_set ?_ GE179.out) | exact HB.out)) hb); clear BK179; clear HB; have HO182 := n0_; have BK179 := n1_; have HB := n2_; clear n0_ n1_ n2_; (try clear hb); (try clear hb2); (try clear hk); (try clear hi); (try clear ho0); obtain ⟨Ao126, co126, eo126⟩ := Kd.N_slice HO182.out; subst eo126; have hcz127_0 : w125.cell? ⟨gb179, 0, none⟩ = some (.slice A0_0 l0_0.length c0_0) := (blk_cell BK179.out 0).trans rfl; have hfz127_0 := blk_frozen BK179.out 0) | (go_at_call 10; (with_reducible refine (cavillaw13_far.calls _ _ t180 false _ ?side1 ?side2 A3.out).mono ?_); (case side1 => refine (Kd.N_reads' (e := 34) (base := w.heap.size) (ok := fun k_ => k_ ≠ gb179) (n := t180.length) (c := co126) ?_).2.2; exact (by (with_reducible repeat (first | apply Kd.N_alloc | apply Kd.N_drewN | apply Kd.N_drew)); exact (Kd.N_mono (Kd.N_far (p := ⟨gb179, 0, none⟩) (Kd.N_mono HO182.out (fun k_ hk => (⟨hk, hk⟩ : _ ∧ k_ ≠ gb179))) (fun _ hk => hk.2) (.slice Ao126 t180.length co126)) (fun _ h_ => h_.1)))); (case side2 => exact (Kd.N_reads' HO182.out).2.1); rintro e w128 ⟨rfl, hb⟩; have n0_ := Aside0.mk (Kd.N_below (by (with_reducible repeat (first | apply Kd.N_alloc | apply Kd.N_drewN | apply Kd.N_drew)); exact (Kd.N_mono (Kd.N_far (p := ⟨gb179, 0, none⟩) (Kd.N_mono HO182.out (fun k_ hk => (⟨hk, hk⟩ : _ ∧ k_ ≠ gb179))) (fun _ hk => hk.2) (.slice Ao126 t180.length co126)) (fun _ h_ => h_.1))) hb); have n1_ := Aside0.mk (blk_below (g := gb179) (o := .cells #[.slice Ao126 t180.length co126] 24 (0, 0)) (by (with_reducible repeat (first | refine blk_drewN ?_ _ | refine blk_drew ?_ | refine blk_alloc ?_ _)); refine blk_put (cs := #[.slice A0_0 l0_0.length c0_0]) ?_ 0 _ rfl; (with_reducible repeat (first | refine blk_drewN ?_ _ | refine blk_drew ?_ | refine blk_alloc ?_ _)); exact BK179.out) hb); have n2_ := Aside0.mk (below_step (by repeat (first | (with_reducible first | exact HB.out | apply below_alloc | apply pw_below_drewN | apply below_drew1 | refine below_set ?_ GE179.out) | exact HB.out)) hb); clear HO182; clear BK179; clear HB; have HO182 := n0_; have BK179 := n1_; have HB := n2_; clear n0_ n1_ n2_; (try clear hb); (try clear hb2); (try clear hk); (try clear hi); have hcz129_0 : w128.cell? ⟨gb179, 0, none⟩ = some (.slice Ao126 t180.length co126) := (blk_cell BK179.out 0).trans rfl; have hfz129_0 := blk_frozen BK179.out 0) | (go_at_call 12; (with_reducible refine (tree_Owners.calls k _ _ t180 t185 (some q189) _ ?side1 ?side2 A13.out).mono ?_); (case side1 => repeat (first | exact (Kd.N_reads' HO182.out).2.2 | (with_reducible refine Kd.C_alloc ?_ _) | (with_reducible refine Kd.C_drewN ?_ _) | (with_reducible refine Kd.C_drew ?_))); (case side2 => exact (Kd.N_reads' HO182.out).2.1); rintro e w130 ⟨v186, rfl, ho0, hb⟩; have n0_ := Aside0.mk (Kd.N_elder' (by (with_reducible repeat (first | apply Kd.N_alloc | apply Kd.N_drewN | apply Kd.N_drew)); exact HO182.out) (Kd.R_base ho0) hb); have n1_ := Aside0.mk (Kd.R_lower ho0 (below_size (by repeat (first | (with_reducible first | exact HB.out | apply below_alloc | apply pw_below_drewN | apply below_drew1 | refine below_set ?_ GE179.out) | exact HB.out)))); have n2_ := Aside0.mk (blk_below (g := gb179) (o := .cells #[.slice Ao126 t180.length co126] 24 (0, 0)) (by (with_reducible repeat (first | refine blk_drewN ?_ _ | refine blk_drew ?_ | refine blk_alloc ?_ _)); exact BK179.out) hb); have n3_ := Aside0.mk (below_step (by repeat (first | (with_reducible first | exact HB.out | apply below_alloc | apply pw_below_drewN | apply below_drew1 | refine below_set ?_ GE179.out) | exact HB.out)) hb); clear HO182; clear BK179; clear HB; have HO182 := n0_; have HO187 := n1_; have BK179 := n2_; have HB := n3_; clear n0_ n1_ n2_ n3_; (try clear hb); (try clear hb2); (try clear hk); (try clear hi); (try clear ho0); (try simp only [errW_none, errW_some, erT_no, erV_no, erT_at, erV_at]); obtain ⟨Ao131, co131, eo131⟩ := Kd.R_slice HO187.out; subst eo131) | (go_at_call 11; (with_reducible refine (cavillaw13_works.calls k  t218 _ A122.out).mono ?_); rintro e w132 ⟨rfl, hb⟩; have n0_ := Aside0.mk (Kd.N_below (by (with_reducible repeat (first | apply Kd.N_alloc | apply Kd.N_drewN | apply Kd.N_drew)); exact HO182.out) hb); have n1_ := Aside0.mk (Kd.R_below (by (with_reducible repeat (first | apply Kd.R_alloc | apply Kd.R_drewN | apply Kd.R_drew)); exact HO187.out) hb); have n2_ := Aside0.mk (blk_below (g := gb179) (o := .cells #[.slice Ao126 t180.length co126] 24 (0, 0)) (by (with_reducible repeat (first | refine blk_drewN ?_ _ | refine blk_drew ?_ | refine blk_alloc ?_ _)); exact BK179.out) hb); have n3_ := Aside0.mk (below_step (by repeat (first | (with_reducible first | exact HB.out | apply below_alloc | apply pw_below_drewN | apply below_drew1 | refine below_set ?_ GE179.out) | exact HB.out)) hb); clear HO182; clear HO187; clear BK179; clear HB; have HO182 := n0_; have HO187 := n1_; have BK179 := n2_; have HB := n3_; clear n0_ n1_ n2_ n3_; (try clear hb); (try clear hb2); (try clear hk); (try clear hi)))
        go_ret
        exact ⟨by first | rfl | (simp [errW_none, errW_some, erT_no, erV_no, erT_at, erV_at] <;> rfl) | (simp [*, errW_none, errW_some, erT_no, erV_no, erT_at, erV_at] <;> rfl), by repeat (first | (with_reducible first | exact HB.out | apply below_alloc | apply pw_below_drewN | apply below_drew1 | refine below_set ?_ GE179.out) | exact HB.out)⟩
      · rw [if_neg c121] at H
        have c121b0 : ((t185.length : Int) == 0) = false := beq_eq_false_iff_ne.mpr c121
        have c121b1 : ((t185.length : Int) != 0) = true := bne_iff_ne.mpr c121
        have c121b2 : ¬ (t185 = []) := fun h_ => c121 (by rw [h_]; rfl)
        obtain rfl := Option.some.inj H
        go_enter Tryd.func3, Tryd.ntmps3
        go_wp2_with (first | ((with_reducible refine gate_dst (N := 1) rfl ?_); (try (refine gate_guard (by rfl) ?_; dsimp only)); refine box_event ?hg (N := 1) ?hd (cs := #[.slice A0_0 l0_0.length c0_0]) (t := 24) ?hr ?_; (case hd => rfl); (case hg => rfl); (case hr => first | (go_simp; done) | (go_simp; rfl)); intro gb179 hg w133 hbox hb; have n0_ := Aside0.mk (below_step (by repeat (first | (with_reducible first | exact HB.out | apply below_alloc | apply pw_below_drewN | apply below_drew1) | exact HB.out)) hb); have n1_ := Aside0.mk (hbox); have n2_ := Aside0.mk ((by rw [hg]; exact (below_size (by repeat (first | (with_reducible first | exact HB.out | apply below_alloc | apply pw_below_drewN | apply below_drew1) | exact HB.out))) : w.heap.size ≤ gb179)); have n3_ := Aside0.mk ((by rw [hg]; exact (below_size (by repeat (first | (with_reducible first | exact HB.out | apply below_alloc | apply pw_below_drewN | apply below_drew1) | exact HB.out))) : w.heap.size ≤ gb179)); clear HB; have HB := n0_; have BK179 := n1_; have GW179 := n2_; have GE179 := n3_; clear n0_ n1_ n2_ n3_; clear hb hbox hg; have hcz134_0 : w133.cell? ⟨gb179, 0, none⟩ = some (.slice A0_0 l0_0.length c0_0) := (blk_cell BK179.out 0).trans rfl; have hfz134_0 := blk_frozen BK179.out 0) | (go_at_call 9; (with_reducible refine (cavillaw13_Few.calls k (fun k_ => k_ < w.heap.size) _ _ l0_0 t180 _ ?side1 A2.out).mono ?_); (case side1 => exact Kd.V_mk HC0_0.out (Kd.F_below (Kd.C_F k34_heap HR0_0.out) (by repeat (first | (with_reducible first | exact HB.out | apply below_alloc | apply pw_below_drewN | apply below_drew1 | refine below_set ?_ GE179.out) | exact HB.out)))); rintro e w135 ⟨v181, rfl, ho0, hb⟩; have n0_ := Aside0.mk (Kd.N_lower (Kd.N_mono (ok' := fun k_ => k_ ≠ gb179) ho0 (fun k_ hk_ => Or.elim hk_ (fun hs_ => fun e_ => Nat.not_le.2 hs_ (by rw [e_]; exact GW179.out)) (fun hn_ => (Kd.freshB (g := gb179) (o := .cells #[.slice A0_0 l0_0.length c0_0] 24 (0, 0)) (by (with_reducible repeat (first | refine blk_drewN ?_ _ | refine blk_drew ?_ | refine blk_alloc ?_ _)); exact BK179.out) k_ hn_)))) (below_size (by repeat (first | (with_reducible first | exact HB.out | apply below_alloc | apply pw_below_drewN | apply below_drew1 | refine below_set ?_ GE179.out) | exact HB.out)))); have n1_ := Aside0.mk (blk_below (g := gb179) (o := .cells #[.slice A0_0 l0_0.length c0_0] 24 (0, 0)) (by (with_reducible repeat (first | refine blk_drewN ?_ _ | refine blk_drew ?_ | refine blk_alloc ?_ _)); exact BK179.out) hb); have n2_ := Aside0.mk (below_step (by repeat (first | (with_reducible first | exact HB.out | apply below_alloc | apply pw_below_drewN | apply below_drew1 | refine below_set ?_ GE179.out) | exact HB.out)) hb); clear BK179; clear HB; have HO182 := n0_; have BK179 := n1_; have HB := n2_; clear n0_ n1_ n2_; (try clear hb); (try clear hb2); (try clear hk); (try clear hi); (try clear ho0); obtain ⟨Ao136, co136, eo136⟩ := Kd.N_slice HO182.out; subst eo136; have hcz137_0 : w135.cell? ⟨gb179, 0, none⟩ = some (.slice A0_0 l0_0.length c0_0) := (blk_cell BK179.out 0).trans rfl; have hfz137_0 := blk_frozen BK179.out 0) | (go_at_call 10; (with_reducible refine (cavillaw13_far.calls _ _ t180 false _ ?side1 ?side2 A3.out).mono ?_); (case side1 => refine (Kd.N_reads' (e := 34) (base := w.heap.size) (ok := fun k_ => k_ ≠ gb179) (n := t180.length) (c := co136) ?_).2.2; exact (by (with_reducible repeat (first | apply Kd.N_alloc | apply Kd.N_drewN | apply Kd.N_drew)); exact (Kd.N_mono (Kd.N_far (p := ⟨gb179, 0, none⟩) (Kd.N_mono HO182.out (fun k_ hk => (⟨hk, hk⟩ : _ ∧ k_ ≠ gb179))) (fun _ hk => hk.2) (.slice Ao136 t180.length co136)) (fun _ h_ => h_.1)))); (case side2 => exact (Kd.N_reads' HO182.out).2.1); rintro e w138 ⟨rfl, hb⟩; have n0_ := Aside0.mk (Kd.N_below (by (with_reducible repeat (first | apply Kd.N_alloc | apply Kd.N_drewN | apply Kd.N_drew)); exact (Kd.N_mono (Kd.N_far (p := ⟨gb179, 0, none⟩) (Kd.N_mono HO182.out (fun k_ hk => (⟨hk, hk⟩ : _ ∧ k_ ≠ gb179))) (fun _ hk => hk.2) (.slice Ao136 t180.length co136)) (fun _ h_ => h_.1))) hb); have n1_ := Aside0.mk (blk_below (g := gb179) (o := .cells #[.slice Ao136 t180.length co136] 24 (0, 0)) (by (with_reducible repeat (first | refine blk_drewN ?_ _ | refine blk_drew ?_ | refine blk_alloc ?_ _)); refine blk_put (cs := #[.slice A0_0 l0_0.length c0_0]) ?_ 0 _ rfl; (with_reducible repeat (first | refine blk_drewN ?_ _ | refine blk_drew ?_ | refine blk_alloc ?_ _)); exact BK179.out) hb); have n2_ := Aside0.mk (below_step (by repeat (first | (with_reducible first | exact HB.out | apply below_alloc | apply pw_below_drewN | apply below_drew1 | refine below_set ?_ GE179.out) | exact HB.out)) hb); clear HO182; clear BK179; clear HB; have HO182 := n0_; have BK179 := n1_; have HB := n2_; clear n0_ n1_ n2_; (try clear hb); (try clear hb2); (try clear hk); (try clear hi); have hcz139_0 : w138.cell? ⟨gb179, 0, none⟩ = some (.slice Ao136 t180.length co136) := (blk_cell BK179.out 0).trans rfl; have hfz139_0 := blk_frozen BK179.out 0) | (go_at_call 12; (with_reducible refine (tree_Owners.calls k _ _ t180 t185 (some q189) _ ?side1 ?side2 A13.out).mono ?_); (case side1 => repeat (first | exact (Kd.N_reads' HO182.out).2.2 | (with_reducible refine Kd.C_alloc ?_ _) | (with_reducible refine Kd.C_drewN ?_ _) | (with_reducible refine Kd.C_drew ?_))); (case side2 => exact (Kd.N_reads' HO182.out).2.1); rintro e w140 ⟨v186, rfl, ho0, hb⟩; have n0_ := Aside0.mk (Kd.N_elder' (by (with_reducible repeat (first | apply Kd.N_alloc | apply Kd.N_drewN | apply Kd.N_drew)); exact HO182.out) (Kd.R_base ho0) hb); have n1_ := Aside0.mk (Kd.R_lower ho0 (below_size (by repeat (first | (with_reducible first | exact HB.out | apply below_alloc | apply pw_below_drewN | apply below_drew1 | refine below_set ?_ GE179.out) | exact HB.out)))); have n2_ := Aside0.mk (blk_below (g := gb179) (o := .cells #[.slice Ao136 t180.length co136] 24 (0, 0)) (by (with_reducible repeat (first | refine blk_drewN ?_ _ | refine blk_drew ?_ | refine blk_alloc ?_ _)); exact BK179.out) hb); have n3_ := Aside0.mk (below_step (by repeat (first | (with_reducible first | exact HB.out | apply below_alloc | apply pw_below_drewN | apply below_drew1 | refine below_set ?_ GE179.out) | exact HB.out)) hb); clear HO182; clear BK179; clear HB; have HO182 := n0_; have HO187 := n1_; have BK179 := n2_; have HB := n3_; clear n0_ n1_ n2_ n3_; (try clear hb); (try clear hb2); (try clear hk); (try clear hi); (try clear ho0); (try simp only [errW_none, errW_some, erT_no, erV_no, erT_at, erV_at]); obtain ⟨Ao141, co141, eo141⟩ := Kd.R_slice HO187.out; subst eo141))
        go_ret
        exact ⟨by first | rfl | (simp [errW_none, errW_some, erT_no, erV_no, erT_at, erV_at] <;> rfl) | (simp [*, errW_none, errW_some, erT_no, erV_no, erT_at, erV_at] <;> rfl), by repeat (first | (with_reducible first | exact HB.out | apply below_alloc | apply pw_below_drewN | apply below_drew1 | refine below_set ?_ GE179.out) | exact HB.out)⟩

end Go.Proofs.YtnpgadfoohjlnabDoor.QT
