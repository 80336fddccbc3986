/- The law cavillaw04.EditBack returns true for every input of its types, and leaves its arguments as they were: no condition. -/
import Derived.Test.YtnpgadfoohjlnaaRows
import Derived.Test.YtnpgadfoohjlnaaBE3
import Derived.Test.YtnpgadfoohjlnaaY
import Derived.WalkKit
import Derived.ProofKit
import Derived.OpenShut
import Derived.ShutString
import Derived.ChangeOld
import Derived.Below
import Derived.SizedLaws
namespace Go.Proofs.Ytnpgadfoohjlnaa.editBack
open Go.ChangeShapes Go.WideShapes Go.ChangeAt Go.RowKit
open Go.ChangeMaps (open_string shut_string)
set_option linter.unusedVariables false
open Go.Proofs.Ytnpgadfoohjlnaa.Opn Go.Proofs.YtnpgadfoohjlnaaW.PrintWords Go.Proofs.Ytnpgadfoohjlnaa
theorem own : ownKnob Try.prog.godebug = none := by kernel_rfl
theorem laidOut : laidOutB Try.prog = true := by kernel_rfl
theorem opens5 : Opens Try.prog (Kd.int .u8) 5 (fun y => (Lit.int .u8 y).wf = true) := opens_int .u8 Try.underlying5 (by kernel_rfl)
theorem opens22 : Opens Try.prog (Kd.slice 5 (Kd.int .u8)) 22 (fun ys => ys.length ≤ maxLen ∧ ∀ y ∈ ys, (Lit.int .u8 y).wf = true) := opens_slice opens5 Try.underlying22 (by kernel_rfl)
theorem opens3 : Opens Try.prog (Kd.int .i64) 3 (fun y => (Lit.int .i64 y).wf = true) := opens_int .i64 Try.underlying3 (by kernel_rfl)
theorem opens9 : Opens Try.prog Kd.string 9 (fun y => y.size ≤ maxLen) := opens_string Try.underlying9 (by kernel_rfl)
def inv64 (y : QB.S64) : Prop := (Lit.int .i64 y.f0).wf = true ∧ (Lit.int .i64 y.f1).wf = true ∧ y.f2.size ≤ maxLen
theorem cells64 : Try.prog.cellsOf 64 = (Kd.pair (Kd.int .i64) (Kd.pair (Kd.int .i64) Kd.string)).sz := by kernel_rfl
theorem opens64 : Opens Try.prog QB.k64 64 inv64 := by
  have j2 : OpensAt Try.prog Kd.string [{ name := "Text", type := 9, offset := 2, embedded := false, tag := "", pkgPath := "", byteOffset := 16 }] 2 _ := at_last opens9 rfl
  have j1 : OpensAt Try.prog (Kd.pair (Kd.int .i64) Kd.string) [{ name := "To", type := 3, offset := 1, embedded := false, tag := "", pkgPath := "", byteOffset := 8 }, { name := "Text", type := 9, offset := 2, embedded := false, tag := "", pkgPath := "", byteOffset := 16 }] 1 _ := at_cons opens3 rfl j2
  have j0 : OpensAt Try.prog (Kd.pair (Kd.int .i64) (Kd.pair (Kd.int .i64) Kd.string)) [{ name := "From", type := 3, offset := 0, embedded := false, tag := "", pkgPath := "", byteOffset := 0 }, { name := "To", type := 3, offset := 1, embedded := false, tag := "", pkgPath := "", byteOffset := 8 }, { name := "Text", type := 9, offset := 2, embedded := false, tag := "", pkgPath := "", byteOffset := 16 }] 0 _ := at_cons opens3 rfl j1
  exact opens_iso (d := (Kd.pair (Kd.int .i64) (Kd.pair (Kd.int .i64) Kd.string))) (I := fun y => (Lit.int .i64 y.1).wf = true ∧ (Lit.int .i64 y.2.1).wf = true ∧ y.2.2.size ≤ maxLen) (opens_struct j0 Try.underlying64 cells64) _ (fun x => ⟨x.1, x.2.1, x.2.2⟩) (fun _ => rfl)
theorem opens55 : Opens Try.prog (Kd.slice 64 QB.k64) 55 (fun ys => ys.length ≤ maxLen ∧ ∀ y ∈ ys, inv64 y) := opens_slice opens64 Try.underlying55 (by kernel_rfl)
theorem walk (A0 : Option Addr) (c0 : Nat) (l0 : List Int) (A1 : Option Addr) (c1 : Nat) (l1 : List QB.S64) (w : World) (hr0 : Kd.C (Kd.int .u8) w A0 l0.length l0) (hc0 : l0.length ≤ c0) (m0 : l0.length ≤ maxLen) (I0 : ∀ y ∈ l0, (Lit.int .u8 y).wf = true) (hr1 : Kd.C QB.k64 w A1 l1.length l1) (hc1 : l1.length ≤ c1) (m1 : l1.length ≤ maxLen) (I1 : ∀ y ∈ l1, inv64 y) :
    Calls Try.prog 7 #[.slice A0 l0.length c0, .slice A1 l1.length c1] w fun e w' => e = .returned (.bool true) ∧ Below w.heap.size w w' := by
  obtain ⟨k, hk⟩ := Plain.EditBack l0 l1 (fun x hx => by simpa [Lit.wf, IntKind.min, IntKind.max, IntKind.signed, IntKind.bits] using I0 x hx)
  exact QB.cavillaw04_EditBack.calls k A0 c0 l0 A1 c1 l1 true w hr0 hc0 hr1 hc1 hk
set_option maxRecDepth 100000 in
theorem lifted (os : Os) (started : os.Started) (H : Type) (enc : TypeId × Value → H) :
    ReturnsInHanded {} Try.checked os 7 .any (Rows.editBackSpec.pre6 enc Try.prog Try.f7 Rows.editBackRow.domain false) (Rows.editBackSpec.post enc Try.prog Try.f7 false true false false) := by
  refine returnsInHanded_of_change_sized (C := Try.checked) own started (by kernel_rfl) Try.func7
    (ChangeSpec.witness6 (enc := enc) (C := Try.checked) false ⟨#[], #[.slice none 0 0, .slice none 0 0], []⟩ 8 (by kernel_rfl) (by kernel_rfl) (by kernel_rfl) (by kernel_rfl)) ?_
  intro W base args ds gs before hval0 hW hcnd hsz0 _
  have hval : ∀ (j : Nat) t v, Try.f7.params[j]? = some t → args[j]? = some v → Value.okWide Try.prog W .any base t v := hval0
  have hW' := hW
  obtain ⟨p, q, hA0, hV, rfl, hfz, hnd⟩ := hW
  have hA : DataW.TrodAll enc Try.prog W 0 (fun _ => true) true Try.f7.params.toList args.toList ds p := hA0
  rw [Try.params7] at hA hval
  obtain ⟨v0, vs0, d0, ds0, p0, q0, hargs, rfl, rfl, h0, r0⟩ := trodAll_cons hA
  obtain ⟨v1, vs1, d1, ds1, p1, q1, rfl, rfl, rfl, h1, r1⟩ := trodAll_cons r0
  obtain ⟨rfl, rfl, rfl⟩ := trodAll_nil r1
  obtain rfl : args = #[v0, v1] := by cases args; simp_all
  obtain ⟨rfl, rfl⟩ := trodVars_none hV
  have k0 := h0
  have lt0 : ∀ x ∈ p0, x.block < W.heap.size := by obtain ⟨m, hm⟩ := k0; exact DataW.trod_lt m _ _ _ hm
  obtain ⟨A0, c0, l0, rfl, hc0, hr0, m0, I0⟩ := arg_slice opens5 Try.underlying22 (by kernel_rfl) h0 (okWide_slice Try.underlying22 (hval 0 22 v0 rfl rfl))
  have k1 := h1
  have lt1 : ∀ x ∈ p1, x.block < W.heap.size := by obtain ⟨m, hm⟩ := k1; exact DataW.trod_lt m _ _ _ hm
  obtain ⟨A1, c1, l1, rfl, hc1, hr1, m1, I1⟩ := arg_slice opens64 Try.underlying55 (by kernel_rfl) h1 (okWide_slice Try.underlying55 (hval 1 55 v1 rfl rfl))
  clear hA0 hval0 hsz0
  refine (walk A0 c0 l0 A1 c1 l1 W hr0 hc0 m0 I0 hr1 hc1 m1 I1).mono fun e W' ⟨he, bel⟩ => ?_
  subst he
  exact ⟨_, rfl, _, _, _, [], _, [], hW', trodAll_mk1 (shut_bool Try.underlying4 _), (trodAll_cons_mk (Below.trod laidOut (by kernel_rfl) (of_decide_eq_true (by kernel_rfl)) k0 bel lt0) (trodAll_cons_mk (Below.trod laidOut (by kernel_rfl) (of_decide_eq_true (by kernel_rfl)) k1 bel lt1) trodAll_mk0)), rfl, bel.frame _, fun h => by cases h⟩
theorem over : Rows.editBackRow.holds Try.pinned (OpenSpec.ofChange Rows.editBackSpec) :=
  OpenClaim.holds_of_wide 7 Try.f7 rfl rfl rfl rfl rfl rfl rfl ⟨rfl, rfl, rfl, rfl, rfl⟩ rfl rfl rfl rfl rfl (by kernel_rfl) Try.func7 (by kernel_rfl)
    (of_decide_eq_true (by kernel_rfl)) (by unfold Func.isWrapper; first | (rw [if_pos (by decide +kernel)]; kernel_rfl) | (rw [if_neg (by decide +kernel)]; exact ⟨rfl, rfl⟩))
    (fun os started H enc _ => lifted os started H enc)
theorem proved : Rows.EditBackSaid := over
#print axioms proved
end Go.Proofs.Ytnpgadfoohjlnaa.editBack
namespace Go.Proofs.Ytnpgadfoohjlnaa
/-- The row, under a short name, for the claim. -/
theorem editBack_holds : Rows.EditBackSaid := editBack.proved
end Go.Proofs.Ytnpgadfoohjlnaa
