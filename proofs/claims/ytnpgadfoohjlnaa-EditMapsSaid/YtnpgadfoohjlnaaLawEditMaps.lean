/- cavillaw04.EditMaps returns true for every list of edits and every number, and leaves its arguments as they were: no condition. -/
import Derived.Test.YtnpgadfoohjlnaaRows
import Derived.Test.YtnpgadfoohjlnaaR1
import Derived.Test.YtnpgadfoohjlnaaY
import Derived.WalkKit
import Derived.ProofKit
import Derived.OpenShut
import Derived.ShutString
import Derived.ChangeOld
import Derived.Below
import Derived.SizedLaws
namespace Go.Proofs.Ytnpgadfoohjlnaa.editMaps
open Go.ChangeShapes Go.WideShapes Go.ChangeAt Go.RowKit
open Go.ChangeMaps (open_string shut_string)
open Go.Proofs.Ytnpgadfoohjlnaa.Opn Go.Proofs.YtnpgadfoohjlnaaW.PrintWords
theorem own : ownKnob Try.prog.godebug = none := by kernel_rfl
theorem laidOut : laidOutB Try.prog = true := by kernel_rfl
theorem cells64 : Try.prog.cellsOf 64 = 3 := by kernel_rfl
theorem opens64 : Opens Try.prog QA.k64 64 (fun y => (Lit.int .i64 y.f0).wf = true ∧ (Lit.int .i64 y.f1).wf = true ∧ y.f2.size ≤ maxLen) := by
  have i3 : Opens Try.prog (Kd.int .i64) 3 _ := opens_int .i64 Try.underlying3 (by kernel_rfl)
  have i9 : Opens Try.prog Kd.string 9 _ := opens_string Try.underlying9 (by kernel_rfl)
  refine opens_iso (d := Kd.pair (Kd.int .i64) (Kd.pair (Kd.int .i64) Kd.string)) (I := fun y => (Lit.int .i64 y.1).wf = true ∧ (Lit.int .i64 y.2.1).wf = true ∧ y.2.2.size ≤ maxLen) (opens_struct ?_ Try.underlying64 cells64) _ (fun x => ⟨x.1, x.2.1, x.2.2⟩) (fun _ => rfl)
  have j2 : OpensAt Try.prog Kd.string [{ name := "Text", type := 9, offset := 2, embedded := false, tag := "", pkgPath := "", byteOffset := 16 }] 2 _ := at_last i9 rfl
  have j1 : OpensAt Try.prog (Kd.pair (Kd.int .i64) Kd.string) [{ name := "To", type := 3, offset := 1, embedded := false, tag := "", pkgPath := "", byteOffset := 8 }, { name := "Text", type := 9, offset := 2, embedded := false, tag := "", pkgPath := "", byteOffset := 16 }] 1 _ := at_cons i3 rfl j2
  have j0 : OpensAt Try.prog (Kd.pair (Kd.int .i64) (Kd.pair (Kd.int .i64) Kd.string)) [{ name := "From", type := 3, offset := 0, embedded := false, tag := "", pkgPath := "", byteOffset := 0 }, { name := "To", type := 3, offset := 1, embedded := false, tag := "", pkgPath := "", byteOffset := 8 }, { name := "Text", type := 9, offset := 2, embedded := false, tag := "", pkgPath := "", byteOffset := 16 }] 0 _ := at_cons i3 rfl j1
  exact j0
theorem walk (A0 : Option Addr) (c0 : Nat) (l0 : List QA.S64) (a1 : Int) (w : World) (hr0 : QA.k64.C w A0 l0.length l0) (hc0 : l0.length ≤ c0) (h1 : (Lit.int .i64 a1).wf = true) :
    Calls Try.prog 5 #[.slice A0 l0.length c0, .int .i64 a1] w fun e w' => e = .returned (.bool true) ∧ Below w.heap.size w w' := by
  have hb : -9223372036854775808 ≤ a1 ∧ a1 ≤ 9223372036854775807 := by simpa [Lit.wf, IntKind.min, IntKind.max, IntKind.signed, IntKind.bits] using h1
  obtain ⟨k, hk⟩ := Plain.EditMaps l0 a1 hb.1 hb.2
  exact QA.cavillaw04_EditMaps.calls k A0 c0 l0 a1 true w hr0 hc0 hk
set_option maxRecDepth 100000 in
theorem lifted (os : Os) (started : os.Started) (H : Type) (enc : TypeId × Value → H) :
    ReturnsInHanded {} Try.checked os 5 .any (Rows.editMapsSpec.pre6 enc Try.prog Try.f5 Rows.editMapsRow.domain false) (Rows.editMapsSpec.post enc Try.prog Try.f5 false true false false) := by
  refine returnsInHanded_of_change_sized (C := Try.checked) own started (by kernel_rfl) Try.func5
    (ChangeSpec.witness6 (enc := enc) (C := Try.checked) false ⟨#[], #[.slice none 0 0, .int .i64 0], []⟩ 8 (by kernel_rfl) (by kernel_rfl) (by kernel_rfl) (by kernel_rfl)) ?_
  intro W base args ds gs before hval0 hW hcnd hsz0 _
  have hval : ∀ (j : Nat) t v, Try.f5.params[j]? = some t → args[j]? = some v → Value.okWide Try.prog W .any base t v := hval0
  have hW' := hW
  obtain ⟨p, q, hA0, hV, rfl, hfz, hnd⟩ := hW
  have hA : DataW.TrodAll enc Try.prog W 0 (fun _ => true) true Try.f5.params.toList args.toList ds p := hA0
  rw [Try.params5] at hA hval
  obtain ⟨v0, vs0, d0, ds0, p0, q0, hargs, rfl, rfl, h0, r0⟩ := trodAll_cons hA
  obtain ⟨v1, vs1, d1, ds1, p1, q1, rfl, rfl, rfl, h1, r1⟩ := trodAll_cons r0
  obtain ⟨rfl, rfl, rfl⟩ := trodAll_nil r1
  obtain rfl : args = #[v0, v1] := by cases args; simp_all
  obtain ⟨rfl, rfl⟩ := trodVars_none hV
  have k0 := h0
  have lt0 : ∀ x ∈ p0, x.block < W.heap.size := by obtain ⟨m, hm⟩ := k0; exact DataW.trod_lt m _ _ _ hm
  obtain ⟨A0, c0, l0, rfl, hc0, hr0, _, _⟩ := arg_slice opens64 Try.underlying55 (by kernel_rfl) h0 (okWide_slice Try.underlying55 (hval 0 55 v0 rfl rfl))
  obtain ⟨a1, rfl, rfl, rfl, w1⟩ := open_int Try.underlying3 (hval 1 3 v1 rfl rfl) h1
  clear hA0 hval0 hsz0
  refine (walk A0 c0 l0 a1 W hr0 hc0 w1).mono fun e W' ⟨he, bel⟩ => ?_
  subst he
  exact ⟨_, rfl, _, _, _, [], _, [], hW', trodAll_mk1 (shut_bool Try.underlying4 _), trodAll_cons_mk (Below.trod laidOut (by kernel_rfl) (of_decide_eq_true (by kernel_rfl)) k0 bel lt0) (trodAll_cons_mk (shut_int Try.underlying3 w1) trodAll_mk0), rfl, bel.frame _, fun h => by cases h⟩
theorem over : Rows.editMapsRow.holds Try.pinned (OpenSpec.ofChange Rows.editMapsSpec) :=
  OpenClaim.holds_of_wide 5 Try.f5 rfl rfl rfl rfl rfl rfl rfl ⟨rfl, rfl, rfl, rfl, rfl⟩ rfl rfl rfl rfl rfl (by kernel_rfl) Try.func5 (by kernel_rfl)
    (of_decide_eq_true (by kernel_rfl)) (by unfold Func.isWrapper; first | (rw [if_pos (by decide +kernel)]; kernel_rfl) | (rw [if_neg (by decide +kernel)]; exact ⟨rfl, rfl⟩))
    (fun os started H enc _ => lifted os started H enc)
theorem proved : Rows.EditMapsSaid := over
#print axioms proved
end Go.Proofs.Ytnpgadfoohjlnaa.editMaps
namespace Go.Proofs.Ytnpgadfoohjlnaa
/-- The row, under a short name, for the claim. -/
theorem editMaps_holds : Rows.EditMapsSaid := editMaps.proved
end Go.Proofs.Ytnpgadfoohjlnaa
