/- The law cavillaw15.ViewWithin returns true for every input of its types, and leaves its arguments as they were: no condition. -/
import Derived.Test.YtnpgadfoohjlnaaRows
import Derived.Test.YtnpgadfoohjlnaaZN4
import Derived.Test.YtnpgadfoohjlnaaY
import Derived.WalkKit
import Derived.ProofKit
import Derived.OpenShut
import Derived.ShutString
import Derived.ChangeOld
import Derived.Below
import Derived.SizedLaws
namespace Go.Proofs.Ytnpgadfoohjlnaa.viewWithin
open Go.ChangeShapes Go.WideShapes Go.ChangeAt Go.RowKit
open Go.ChangeMaps (open_string shut_string)
set_option linter.unusedVariables false
open Go.Proofs.Ytnpgadfoohjlnaa.Opn Go.Proofs.YtnpgadfoohjlnaaW.PrintWords Go.Proofs.Ytnpgadfoohjlnaa
theorem own : ownKnob Try.prog.godebug = none := by kernel_rfl
theorem laidOut : laidOutB Try.prog = true := by kernel_rfl
theorem opens5 : Opens Try.prog (Kd.int .u8) 5 (fun y => (Lit.int .u8 y).wf = true) := opens_int .u8 Try.underlying5 (by kernel_rfl)
theorem opens22 : Opens Try.prog (Kd.slice 5 (Kd.int .u8)) 22 (fun ys => ys.length ≤ maxLen ∧ ∀ y ∈ ys, (Lit.int .u8 y).wf = true) := opens_slice opens5 Try.underlying22 (by kernel_rfl)
theorem opens3 : Opens Try.prog (Kd.int .i64) 3 (fun y => (Lit.int .i64 y).wf = true) := opens_int .i64 Try.underlying3 (by kernel_rfl)
theorem opens4 : Opens Try.prog Kd.bool 4 (fun _ => True) := opens_bool Try.underlying4 (by kernel_rfl)
theorem opens36 : Opens Try.prog (Kd.int .i64) 36 (fun y => (Lit.int .i64 y).wf = true) := opens_int .i64 Try.underlying36 (by kernel_rfl)
def inv38 (y : QV.S38) : Prop := (Lit.int .i64 y.f0).wf = true ∧ (Lit.int .i64 y.f1).wf = true ∧ (Lit.int .i64 y.f2).wf = true ∧ True ∧ (Lit.int .i64 y.f4).wf = true
theorem cells38 : Try.prog.cellsOf 38 = (Kd.pair (Kd.int .i64) (Kd.pair (Kd.int .i64) (Kd.pair (Kd.int .i64) (Kd.pair Kd.bool (Kd.int .i64))))).sz := by kernel_rfl
theorem opens38 : Opens Try.prog QV.k38 38 inv38 := by
  have j4 : OpensAt Try.prog (Kd.int .i64) [{ name := "Err", type := 36, offset := 4, embedded := false, tag := "", pkgPath := "", byteOffset := 32 }] 4 _ := at_last opens36 rfl
  have j3 : OpensAt Try.prog (Kd.pair Kd.bool (Kd.int .i64)) [{ name := "Auto", type := 4, offset := 3, embedded := false, tag := "", pkgPath := "", byteOffset := 24 }, { name := "Err", type := 36, offset := 4, embedded := false, tag := "", pkgPath := "", byteOffset := 32 }] 3 _ := at_cons opens4 rfl j4
  have j2 : OpensAt Try.prog (Kd.pair (Kd.int .i64) (Kd.pair Kd.bool (Kd.int .i64))) [{ name := "To", type := 3, offset := 2, embedded := false, tag := "", pkgPath := "", byteOffset := 16 }, { name := "Auto", type := 4, offset := 3, embedded := false, tag := "", pkgPath := "", byteOffset := 24 }, { name := "Err", type := 36, offset := 4, embedded := false, tag := "", pkgPath := "", byteOffset := 32 }] 2 _ := at_cons opens3 rfl j3
  have j1 : OpensAt Try.prog (Kd.pair (Kd.int .i64) (Kd.pair (Kd.int .i64) (Kd.pair Kd.bool (Kd.int .i64)))) [{ name := "From", type := 3, offset := 1, embedded := false, tag := "", pkgPath := "", byteOffset := 8 }, { name := "To", type := 3, offset := 2, embedded := false, tag := "", pkgPath := "", byteOffset := 16 }, { name := "Auto", type := 4, offset := 3, embedded := false, tag := "", pkgPath := "", byteOffset := 24 }, { name := "Err", type := 36, offset := 4, embedded := false, tag := "", pkgPath := "", byteOffset := 32 }] 1 _ := at_cons opens3 rfl j2
  have j0 : OpensAt Try.prog (Kd.pair (Kd.int .i64) (Kd.pair (Kd.int .i64) (Kd.pair (Kd.int .i64) (Kd.pair Kd.bool (Kd.int .i64))))) [{ name := "Kind", type := 3, offset := 0, embedded := false, tag := "", pkgPath := "", byteOffset := 0 }, { name := "From", type := 3, offset := 1, embedded := false, tag := "", pkgPath := "", byteOffset := 8 }, { name := "To", type := 3, offset := 2, embedded := false, tag := "", pkgPath := "", byteOffset := 16 }, { name := "Auto", type := 4, offset := 3, embedded := false, tag := "", pkgPath := "", byteOffset := 24 }, { name := "Err", type := 36, offset := 4, embedded := false, tag := "", pkgPath := "", byteOffset := 32 }] 0 _ := at_cons opens3 rfl j1
  exact opens_iso (d := (Kd.pair (Kd.int .i64) (Kd.pair (Kd.int .i64) (Kd.pair (Kd.int .i64) (Kd.pair Kd.bool (Kd.int .i64)))))) (I := fun y => (Lit.int .i64 y.1).wf = true ∧ (Lit.int .i64 y.2.1).wf = true ∧ (Lit.int .i64 y.2.2.1).wf = true ∧ True ∧ (Lit.int .i64 y.2.2.2.2).wf = true) (opens_struct j0 Try.underlying38 cells38) _ (fun x => ⟨x.1, x.2.1, x.2.2.1, x.2.2.2.1, x.2.2.2.2⟩) (fun _ => rfl)
theorem opens23 : Opens Try.prog (Kd.slice 38 QV.k38) 23 (fun ys => ys.length ≤ maxLen ∧ ∀ y ∈ ys, inv38 y) := opens_slice opens38 Try.underlying23 (by kernel_rfl)
theorem opens42 : Opens Try.prog (Kd.slice 3 (Kd.int .i64)) 42 (fun ys => ys.length ≤ maxLen ∧ ∀ y ∈ ys, (Lit.int .i64 y).wf = true) := opens_slice opens3 Try.underlying42 (by kernel_rfl)
def inv44 (y : QV.S44) : Prop := (Lit.int .i64 y.f0).wf = true ∧ (Lit.int .i64 y.f1).wf = true ∧ (Lit.int .i64 y.f2).wf = true ∧ (y.f3.length ≤ maxLen ∧ ∀ z ∈ y.f3, (Lit.int .i64 z).wf = true)
theorem cells44 : Try.prog.cellsOf 44 = (Kd.pair (Kd.int .i64) (Kd.pair (Kd.int .i64) (Kd.pair (Kd.int .i64) (Kd.slice 3 (Kd.int .i64))))).sz := by kernel_rfl
theorem opens44 : Opens Try.prog QV.k44 44 inv44 := by
  have j3 : OpensAt Try.prog (Kd.slice 3 (Kd.int .i64)) [{ name := "Kids", type := 42, offset := 3, embedded := false, tag := "", pkgPath := "", byteOffset := 24 }] 3 _ := at_last opens42 rfl
  have j2 : OpensAt Try.prog (Kd.pair (Kd.int .i64) (Kd.slice 3 (Kd.int .i64))) [{ name := "To", type := 3, offset := 2, embedded := false, tag := "", pkgPath := "", byteOffset := 16 }, { name := "Kids", type := 42, offset := 3, embedded := false, tag := "", pkgPath := "", byteOffset := 24 }] 2 _ := at_cons opens3 rfl j3
  have j1 : OpensAt Try.prog (Kd.pair (Kd.int .i64) (Kd.pair (Kd.int .i64) (Kd.slice 3 (Kd.int .i64)))) [{ name := "From", type := 3, offset := 1, embedded := false, tag := "", pkgPath := "", byteOffset := 8 }, { name := "To", type := 3, offset := 2, embedded := false, tag := "", pkgPath := "", byteOffset := 16 }, { name := "Kids", type := 42, offset := 3, embedded := false, tag := "", pkgPath := "", byteOffset := 24 }] 1 _ := at_cons opens3 rfl j2
  have j0 : OpensAt Try.prog (Kd.pair (Kd.int .i64) (Kd.pair (Kd.int .i64) (Kd.pair (Kd.int .i64) (Kd.slice 3 (Kd.int .i64))))) [{ name := "Kind", type := 3, offset := 0, embedded := false, tag := "", pkgPath := "", byteOffset := 0 }, { name := "From", type := 3, offset := 1, embedded := false, tag := "", pkgPath := "", byteOffset := 8 }, { name := "To", type := 3, offset := 2, embedded := false, tag := "", pkgPath := "", byteOffset := 16 }, { name := "Kids", type := 42, offset := 3, embedded := false, tag := "", pkgPath := "", byteOffset := 24 }] 0 _ := at_cons opens3 rfl j1
  exact opens_iso (d := (Kd.pair (Kd.int .i64) (Kd.pair (Kd.int .i64) (Kd.pair (Kd.int .i64) (Kd.slice 3 (Kd.int .i64)))))) (I := fun y => (Lit.int .i64 y.1).wf = true ∧ (Lit.int .i64 y.2.1).wf = true ∧ (Lit.int .i64 y.2.2.1).wf = true ∧ (y.2.2.2.length ≤ maxLen ∧ ∀ z ∈ y.2.2.2, (Lit.int .i64 z).wf = true)) (opens_struct j0 Try.underlying44 cells44) _ (fun x => ⟨x.1, x.2.1, x.2.2.1, x.2.2.2⟩) (fun _ => rfl)
theorem opens24 : Opens Try.prog (Kd.slice 44 QV.k44) 24 (fun ys => ys.length ≤ maxLen ∧ ∀ y ∈ ys, inv44 y) := opens_slice opens44 Try.underlying24 (by kernel_rfl)
def inv26 (y : QV.S26) : Prop := (y.f0.length ≤ maxLen ∧ ∀ z ∈ y.f0, inv44 z)
theorem cells26 : Try.prog.cellsOf 26 = (Kd.slice 44 QV.k44).sz := by kernel_rfl
theorem opens26 : Opens Try.prog QV.k26 26 inv26 := by
  have j0 : OpensAt Try.prog (Kd.slice 44 QV.k44) [{ name := "Nodes", type := 24, offset := 0, embedded := false, tag := "", pkgPath := "", byteOffset := 0 }] 0 _ := at_last opens24 rfl
  exact opens_iso (d := (Kd.slice 44 QV.k44)) (I := fun y => (y.length ≤ maxLen ∧ ∀ z ∈ y, inv44 z)) (opens_struct j0 Try.underlying26 cells26) _ (fun x => ⟨x⟩) (fun _ => rfl)
def inv28 (y : QV.S72) : Prop := (y.f0.length ≤ maxLen ∧ ∀ z ∈ y.f0, (Lit.int .u8 z).wf = true) ∧ (y.f1.length ≤ maxLen ∧ ∀ z ∈ y.f1, inv38 z) ∧ inv26 y.f2
theorem cells28 : Try.prog.cellsOf 28 = (Kd.pair (Kd.slice 5 (Kd.int .u8)) (Kd.pair (Kd.slice 38 QV.k38) QV.k26)).sz := by kernel_rfl
theorem opens28 : Opens Try.prog QV.k72 28 inv28 := by
  have j2 : OpensAt Try.prog QV.k26 [{ name := "Tree", type := 26, offset := 2, embedded := false, tag := "", pkgPath := "", byteOffset := 48 }] 2 _ := at_last opens26 rfl
  have j1 : OpensAt Try.prog (Kd.pair (Kd.slice 38 QV.k38) QV.k26) [{ name := "Toks", type := 23, offset := 1, embedded := false, tag := "", pkgPath := "", byteOffset := 24 }, { name := "Tree", type := 26, offset := 2, embedded := false, tag := "", pkgPath := "", byteOffset := 48 }] 1 _ := at_cons opens23 rfl j2
  have j0 : OpensAt Try.prog (Kd.pair (Kd.slice 5 (Kd.int .u8)) (Kd.pair (Kd.slice 38 QV.k38) QV.k26)) [{ name := "Text", type := 22, offset := 0, embedded := false, tag := "", pkgPath := "", byteOffset := 0 }, { name := "Toks", type := 23, offset := 1, embedded := false, tag := "", pkgPath := "", byteOffset := 24 }, { name := "Tree", type := 26, offset := 2, embedded := false, tag := "", pkgPath := "", byteOffset := 48 }] 0 _ := at_cons opens22 rfl j1
  exact opens_iso (d := (Kd.pair (Kd.slice 5 (Kd.int .u8)) (Kd.pair (Kd.slice 38 QV.k38) QV.k26))) (I := fun y => (y.1.length ≤ maxLen ∧ ∀ z ∈ y.1, (Lit.int .u8 z).wf = true) ∧ (y.2.1.length ≤ maxLen ∧ ∀ z ∈ y.2.1, inv38 z) ∧ inv26 y.2.2) (opens_struct j0 Try.underlying28 cells28) _ (fun x => ⟨x.1, x.2.1, x.2.2⟩) (fun _ => rfl)
theorem walk (A0_0 : Option Addr) (c0_0 : Nat) (A0_1 : Option Addr) (c0_1 : Nat) (A0_2 : Option Addr) (c0_2 : Nat) (s0 : QV.S72) (w : World) (hr0_0 : Kd.C (Kd.int .u8) w A0_0 s0.f0.length s0.f0) (hc0_0 : s0.f0.length ≤ c0_0) (hr0_1 : Kd.C QV.k38 w A0_1 s0.f1.length s0.f1) (hc0_1 : s0.f1.length ≤ c0_1) (hr0_2 : Kd.C QV.k44 w A0_2 s0.f2.f0.length s0.f2.f0) (hc0_2 : s0.f2.f0.length ≤ c0_2) (I0 : inv28 s0) :
    Calls Try.prog 3 #[.agg #[.slice A0_0 s0.f0.length c0_0, .slice A0_1 s0.f1.length c0_1, .slice A0_2 s0.f2.f0.length c0_2]] w fun e w' => e = .returned (.bool true) ∧ Below w.heap.size w w' := by
  obtain h | ⟨q, h⟩ : Plain.badOf (Plain.fewOf s0.f2.f0) ((s0.f1.take 60).length : Int) = none ∨ ∃ q, Plain.badOf (Plain.fewOf s0.f2.f0) ((s0.f1.take 60).length : Int) = some q := by
    cases Plain.badOf (Plain.fewOf s0.f2.f0) ((s0.f1.take 60).length : Int) with
    | none => exact .inl rfl
    | some q => exact .inr ⟨q, rfl⟩
  · obtain ⟨k, hk⟩ := Plain.ViewWithin_ok s0.f0 s0.f1 s0.f2.f0 h
    exact QV.cavillaw15_ViewWithin.calls k A0_0 c0_0 s0.f0 A0_1 c0_1 s0.f1 A0_2 c0_2 s0.f2.f0 true w hr0_0 hc0_0 hr0_1 hc0_1 hr0_2 hc0_2 hk rfl
  · obtain ⟨k, hk⟩ := Plain.ViewWithin_bad s0.f0 s0.f1 s0.f2.f0 h
    exact QV.cavillaw15_ViewWithin_nil.calls k A0_0 c0_0 s0.f0 A0_1 c0_1 s0.f1 A0_2 c0_2 s0.f2.f0 true w hr0_0 hc0_0 hr0_1 hc0_1 hr0_2 hc0_2 hk rfl
set_option maxRecDepth 100000 in
theorem lifted (os : Os) (started : os.Started) (H : Type) (enc : TypeId × Value → H) :
    ReturnsInHanded {} Try.checked os 3 .any (Rows.viewWithinSpec.pre6 enc Try.prog Try.f3 Rows.viewWithinRow.domain false) (Rows.viewWithinSpec.post enc Try.prog Try.f3 false true false false) := by
  refine returnsInHanded_of_change_sized (C := Try.checked) own started (by kernel_rfl) Try.func3
    (ChangeSpec.witness6 (enc := enc) (C := Try.checked) false ⟨#[], #[.agg #[.slice none 0 0, .slice none 0 0, .slice none 0 0]], []⟩ 8 (by kernel_rfl) (by kernel_rfl) (by kernel_rfl) (by kernel_rfl)) ?_
  intro W base args ds gs before hval0 hW hcnd hsz0 _
  have hval : ∀ (j : Nat) t v, Try.f3.params[j]? = some t → args[j]? = some v → Value.okWide Try.prog W .any base t v := hval0
  have hW' := hW
  obtain ⟨p, q, hA0, hV, rfl, hfz, hnd⟩ := hW
  have hA : DataW.TrodAll enc Try.prog W 0 (fun _ => true) true Try.f3.params.toList args.toList ds p := hA0
  rw [Try.params3] at hA hval
  obtain ⟨v0, vs0, d0, ds0, p0, q0, hargs, rfl, rfl, h0, r0⟩ := trodAll_cons hA
  obtain ⟨rfl, rfl, rfl⟩ := trodAll_nil r0
  obtain rfl : args = #[v0] := by cases args; simp_all
  obtain ⟨rfl, rfl⟩ := trodVars_none hV
  have k0 := h0
  have lt0 : ∀ x ∈ p0, x.block < W.heap.size := by obtain ⟨m, hm⟩ := k0; exact DataW.trod_lt m _ _ _ hm
  obtain ⟨cs0, s0, rfl, hk0, I0⟩ := arg_struct opens28 h0 (okWide_struct Try.underlying28 (hval 0 28 v0 rfl rfl))
  obtain ⟨A0_0, c0_0, A0_1, c0_1, A0_2, c0_2, hcs0, hc0_0, hr0_0, hc0_1, hr0_1, hc0_2, hr0_2⟩ := QV.k72_open hk0
  obtain rfl : cs0 = #[.slice A0_0 s0.f0.length c0_0, .slice A0_1 s0.f1.length c0_1, .slice A0_2 s0.f2.f0.length c0_2] := by rw [← Array.toArray_toList (xs := cs0), hcs0]
  clear hA0 hval0 hsz0
  refine (walk A0_0 c0_0 A0_1 c0_1 A0_2 c0_2 s0 W hr0_0 hc0_0 hr0_1 hc0_1 hr0_2 hc0_2 I0).mono fun e W' ⟨he, bel⟩ => ?_
  subst he
  exact ⟨_, rfl, _, _, _, [], _, [], hW', trodAll_mk1 (shut_bool Try.underlying4 _), (trodAll_cons_mk (Below.trod laidOut (by kernel_rfl) (of_decide_eq_true (by kernel_rfl)) k0 bel lt0) trodAll_mk0), rfl, bel.frame _, fun h => by cases h⟩
theorem over : Rows.viewWithinRow.holds Try.pinned (OpenSpec.ofChange Rows.viewWithinSpec) :=
  OpenClaim.holds_of_wide 3 Try.f3 rfl rfl rfl rfl rfl rfl rfl ⟨rfl, rfl, rfl, rfl, rfl⟩ rfl rfl rfl rfl rfl (by kernel_rfl) Try.func3 (by kernel_rfl)
    (of_decide_eq_true (by kernel_rfl)) (by unfold Func.isWrapper; first | (rw [if_pos (by decide +kernel)]; kernel_rfl) | (rw [if_neg (by decide +kernel)]; exact ⟨rfl, rfl⟩))
    (fun os started H enc _ => lifted os started H enc)
theorem proved : Rows.ViewWithinSaid := over
#print axioms proved
end Go.Proofs.Ytnpgadfoohjlnaa.viewWithin
namespace Go.Proofs.Ytnpgadfoohjlnaa
/-- The row, under a short name, for the claim. -/
theorem viewWithin_holds : Rows.ViewWithinSaid := viewWithin.proved
end Go.Proofs.Ytnpgadfoohjlnaa
