/- The law cavillaw13.TreeTexts returns true for every input of its types, and leaves its arguments as they were: no condition but the laid package variables, which the card ties to the text. -/
import Derived.Test.YtnpgadfoohjlnabDoorRows
import Derived.Test.YtnpgadfoohjlnabDoorXL4
import Derived.Test.YtnpgadfoohjlnabDoorY
import Derived.Test.YtnpgadfoohjlnabDoorCards
import Derived.Test.YtnpgadfoohjlnabDoorTie
import Derived.WalkKit
import Derived.ProofKit
import Derived.OpenShut
import Derived.ShutString
import Derived.ChangeOld
import Derived.Below
import Derived.SizedLaws
import Derived.SevenTiedAt
import Derived.LaidLaws
import Derived.LaidHandle
import Derived.LaidMore
import Derived.JoinedOf
import Derived.ChangeVars
import Derived.Handed
namespace Go.Proofs.YtnpgadfoohjlnabDoor.treeTexts
open Go.ChangeShapes Go.WideShapes Go.ChangeAt Go.RowKit
open Go.ChangeMaps (open_string shut_string)
set_option linter.unusedVariables false
open Go.Proofs.YtnpgadfoohjlnabDoor.Opn Go.Proofs.YtnpgadfoohjlnabDoorW.PrintWords Go.Proofs.YtnpgadfoohjlnabDoor
theorem own : ownKnob Tryd.prog.godebug = none := by kernel_rfl
theorem laidOut : laidOutB Tryd.prog = true := by kernel_rfl
theorem opens3 : Opens Tryd.prog (Kd.int .i64) 3 (fun y => (Lit.int .i64 y).wf = true) := opens_int .i64 Tryd.underlying3 (by kernel_rfl)
theorem opens28 : Opens Tryd.prog (Kd.slice 3 (Kd.int .i64)) 28 (fun ys => ys.length ≤ maxLen ∧ ∀ y ∈ ys, (Lit.int .i64 y).wf = true) := opens_slice opens3 Tryd.underlying28 (by kernel_rfl)
def inv34 (y : QX.S34) : Prop := (Lit.int .i64 y.f0).wf = true ∧ (Lit.int .i64 y.f1).wf = true ∧ (Lit.int .i64 y.f2).wf = true ∧ (y.f3.length ≤ maxLen ∧ ∀ z ∈ y.f3, (Lit.int .i64 z).wf = true)
theorem cells34 : Tryd.prog.cellsOf 34 = (Kd.pair (Kd.int .i64) (Kd.pair (Kd.int .i64) (Kd.pair (Kd.int .i64) (Kd.slice 3 (Kd.int .i64))))).sz := by kernel_rfl
theorem opens34 : Opens Tryd.prog QX.k34 34 inv34 := by
  have j3 : OpensAt Tryd.prog (Kd.slice 3 (Kd.int .i64)) [{ name := "Kids", type := 28, offset := 3, embedded := false, tag := "", pkgPath := "", byteOffset := 24 }] 3 _ := at_last opens28 rfl
  have j2 : OpensAt Tryd.prog (Kd.pair (Kd.int .i64) (Kd.slice 3 (Kd.int .i64))) [{ name := "To", type := 3, offset := 2, embedded := false, tag := "", pkgPath := "", byteOffset := 16 }, { name := "Kids", type := 28, offset := 3, embedded := false, tag := "", pkgPath := "", byteOffset := 24 }] 2 _ := at_cons opens3 rfl j3
  have j1 : OpensAt Tryd.prog (Kd.pair (Kd.int .i64) (Kd.pair (Kd.int .i64) (Kd.slice 3 (Kd.int .i64)))) [{ name := "From", type := 3, offset := 1, embedded := false, tag := "", pkgPath := "", byteOffset := 8 }, { name := "To", type := 3, offset := 2, embedded := false, tag := "", pkgPath := "", byteOffset := 16 }, { name := "Kids", type := 28, offset := 3, embedded := false, tag := "", pkgPath := "", byteOffset := 24 }] 1 _ := at_cons opens3 rfl j2
  have j0 : OpensAt Tryd.prog (Kd.pair (Kd.int .i64) (Kd.pair (Kd.int .i64) (Kd.pair (Kd.int .i64) (Kd.slice 3 (Kd.int .i64))))) [{ name := "Kind", type := 3, offset := 0, embedded := false, tag := "", pkgPath := "", byteOffset := 0 }, { name := "From", type := 3, offset := 1, embedded := false, tag := "", pkgPath := "", byteOffset := 8 }, { name := "To", type := 3, offset := 2, embedded := false, tag := "", pkgPath := "", byteOffset := 16 }, { name := "Kids", type := 28, offset := 3, embedded := false, tag := "", pkgPath := "", byteOffset := 24 }] 0 _ := at_cons opens3 rfl j1
  exact opens_iso (d := (Kd.pair (Kd.int .i64) (Kd.pair (Kd.int .i64) (Kd.pair (Kd.int .i64) (Kd.slice 3 (Kd.int .i64)))))) (I := fun y => (Lit.int .i64 y.1).wf = true ∧ (Lit.int .i64 y.2.1).wf = true ∧ (Lit.int .i64 y.2.2.1).wf = true ∧ (y.2.2.2.length ≤ maxLen ∧ ∀ z ∈ y.2.2.2, (Lit.int .i64 z).wf = true)) (opens_struct j0 Tryd.underlying34 cells34) _ (fun x => ⟨x.1, x.2.1, x.2.2.1, x.2.2.2⟩) (fun _ => rfl)
theorem opens22 : Opens Tryd.prog (Kd.slice 34 QX.k34) 22 (fun ys => ys.length ≤ maxLen ∧ ∀ y ∈ ys, inv34 y) := opens_slice opens34 Tryd.underlying22 (by kernel_rfl)
structure S24 where
  f0 : List QX.S34
def k24 : Kd S24 := Kd.iso (Kd.slice 34 QX.k34) (fun x : S24 => x.f0)
theorem k24_open {w : World} {x : S24} {cs : List Value} (h : k24.K w x cs) : ∃ A0 c0, cs = [.slice A0 x.f0.length c0] ∧ x.f0.length ≤ c0 ∧ QX.k34.C w A0 x.f0.length x.f0 := by
  obtain ⟨A0, c0, rfl, l0, g0⟩ := h
  exact ⟨A0, c0, rfl, l0, g0⟩
def inv24 (y : S24) : Prop := (y.f0.length ≤ maxLen ∧ ∀ z ∈ y.f0, inv34 z)
theorem cells24 : Tryd.prog.cellsOf 24 = (Kd.slice 34 QX.k34).sz := by kernel_rfl
theorem opens24 : Opens Tryd.prog k24 24 inv24 := by
  have j0 : OpensAt Tryd.prog (Kd.slice 34 QX.k34) [{ name := "Nodes", type := 22, offset := 0, embedded := false, tag := "", pkgPath := "", byteOffset := 0 }] 0 _ := at_last opens22 rfl
  exact opens_iso (d := (Kd.slice 34 QX.k34)) (I := fun y => (y.length ≤ maxLen ∧ ∀ z ∈ y, inv34 z)) (opens_struct j0 Tryd.underlying24 cells24) _ (fun x => ⟨x⟩) (fun _ => rfl)
noncomputable def laidL {H : Type} : List (String × DataW H) := [("math/bits.deBruijn32tab", Rows.laid_math_bits_deBruijn32tab), ("math/bits.deBruijn64tab", Rows.laid_math_bits_deBruijn64tab), ("internal/strconv.uint64pow10", Rows.laid_internal_strconv_uint64pow10)]
noncomputable def laidWorld (os : Os) : World := World.doorLaid Tryd.prog 400 os
theorem laidWorld_met (os : Os) (args : Array Value) : laidMetH Tryd.prog laidL ((laidWorld os).forCall (fun _ _ => 0) ⟨#[], args, []⟩).memory :=
  laidMetH_of_parts3 (fuel := 8) (laidMet_of_run' 8 (by kernel_rfl) (by kernel_rfl)) (by kernel_rfl) (by kernel_rfl)
theorem walk (A0_0 : Option Addr) (c0_0 : Nat) (s0 : S24) (a1 : Int) (w : World) (hr0_0 : Kd.C QX.k34 w A0_0 s0.f0.length s0.f0) (hc0_0 : s0.f0.length ≤ c0_0) (I0 : inv24 s0) (I1 : (Lit.int .i64 a1).wf = true) :
    Calls Tryd.prog 7 #[.agg #[.slice A0_0 s0.f0.length c0_0], .int .i64 a1] w fun e w' => e = .returned (.bool true) ∧ Below w.heap.size w w' := by
  obtain ⟨k, hk⟩ := Plain.TreeTexts s0.f0 a1
  exact QX.cavillaw13_TreeTexts.calls k A0_0 c0_0 s0.f0 a1 true w hr0_0 hc0_0 hk
set_option maxRecDepth 100000 in
theorem lifted (os : Os) (started : os.Started) (H : Type) (enc : TypeId × Value → H) :
    ReturnsInHanded {} Tryd.checked os 7 .any (fun w args => (Rows.treeTextsSpec.pre enc Tryd.prog Tryd.f7 [] false w args ∧ laidMetH Tryd.prog laidL w) ∧ sizedMet enc Tryd.prog Tryd.f7 (OpenSpec.ofChange Rows.treeTextsSpec) false w args) (Rows.treeTextsSpec.post enc Tryd.prog Tryd.f7 false true false false) := by
  refine returnsInHanded_of_change_and (C := Tryd.checked) (X := fun w _ => laidMetH Tryd.prog laidL w) (fun _ _ _ hh h => h.of_heap hh) own started (by kernel_rfl) Tryd.func7
    (ChangeSpec.witness_shaped (enc := enc) (C := Tryd.checked) (os := os) (X := fun w _ => laidMetH Tryd.prog laidL w) false (laidWorld os) #[.agg #[.slice none 0 0], .int .i64 0] 8 rfl (World.shaped_of_RefB (by kernel_rfl) (by kernel_rfl)) (by kernel_rfl) (by kernel_rfl) (by kernel_rfl) (laidWorld_met os _)) ?_
  intro W base args ds gs before hval0 hW hcnd hsz0 hL _
  have hval : ∀ (j : Nat) t v, Tryd.f7.params[j]? = some t → args[j]? = some v → Value.okWide Tryd.prog W .any base t v := hval0
  have hW' := hW
  obtain ⟨p, q, hA0, hV, rfl, hfz, hnd⟩ := hW
  have hA : DataW.TrodAll enc Tryd.prog W 0 (fun _ => true) true Tryd.f7.params.toList args.toList ds p := hA0
  rw [Tryd.params7] at hA hval
  obtain ⟨v0, vs0, d0, ds0, p0, q0, hargs, rfl, rfl, h0, r0⟩ := trodAll_cons hA
  obtain ⟨v1, vs1, d1, ds1, p1, q1, rfl, rfl, rfl, h1, r1⟩ := trodAll_cons r0
  obtain ⟨rfl, rfl, rfl⟩ := trodAll_nil r1
  obtain rfl : args = #[v0, v1] := by cases args; simp_all
  obtain ⟨rfl, rfl⟩ := trodVars_none hV
  have k0 := h0
  have lt0 : ∀ x ∈ p0, x.block < W.heap.size := by obtain ⟨m, hm⟩ := k0; exact DataW.trod_lt m _ _ _ hm
  obtain ⟨cs0, s0, rfl, hk0, I0⟩ := arg_struct opens24 h0 (okWide_struct Tryd.underlying24 (hval 0 24 v0 rfl rfl))
  obtain ⟨A0_0, c0_0, hcs0, hc0_0, hr0_0⟩ := k24_open hk0
  obtain rfl : cs0 = #[.slice A0_0 s0.f0.length c0_0] := by rw [← Array.toArray_toList (xs := cs0), hcs0]
  obtain ⟨a1, rfl, rfl, rfl, I1⟩ := open_int Tryd.underlying3 (hval 1 3 v1 rfl rfl) h1
  clear hA0 hval0 hsz0
  refine (walk A0_0 c0_0 s0 a1 W hr0_0 hc0_0 I0 I1).mono fun e W' ⟨he, bel⟩ => ?_
  subst he
  exact ⟨_, rfl, _, _, _, [], _, [], hW', trodAll_mk1 (shut_bool Tryd.underlying4 _), (trodAll_cons_mk (Below.trod laidOut (by kernel_rfl) (of_decide_eq_true (by kernel_rfl)) k0 bel lt0) (trodAll_cons_mk (shut_int Tryd.underlying3 I1) trodAll_mk0)), rfl, bel.frame _, fun h => by cases h⟩
theorem over : Rows.treeTextsRow.holds Tryd.pinned (OpenSpec.ofChange Rows.treeTextsSpec) :=
  OpenClaim.holds_of_wide 7 Tryd.f7 rfl rfl rfl rfl rfl rfl rfl ⟨rfl, rfl, rfl, rfl, rfl⟩ rfl rfl rfl rfl rfl (by kernel_rfl) Tryd.func7 (by kernel_rfl)
    (of_decide_eq_true (by kernel_rfl)) (by unfold Func.isWrapper; first | (rw [if_pos (by decide +kernel)]; kernel_rfl) | (rw [if_neg (by decide +kernel)]; exact ⟨rfl, rfl⟩))
    (fun os started H enc _ => lifted os started H enc)
theorem proved : Rows.TreeTextsCardSaid :=
  Claim7.holds_tied_plain_at .later [] [.data, .data, .data] true (true, "b8463492d09ccbdcbf49988d94c1d4a233a4ae3cd95ae2b3cef5ba55e3b5bc7c") true
    over (fun _ h => by cases h) (by kernel_rfl) (fun _ h => by cases h) treeTexts_row_tie rfl ⟨rfl, rfl⟩ (by kernel_rfl) rfl
    (fun f fn hf hfn => by
      obtain rfl : f = 7 := Option.some.inj ((show Tryd.prog.funcNamed "cavil/cavillaw13.TreeTexts" = some 7 by kernel_rfl).symm.trans hf) |>.symm
      obtain rfl : fn = Tryd.f7 := (Option.some.inj (Tryd.func7.symm.trans hfn)).symm
      exact ⟨by kernel_rfl, fun j t ht => by
        rw [Tryd.params7] at ht
        have hm : t ∈ [24, 3] := by simpa using Array.mem_of_getElem? ht
        have hall : ([24, 3].all fun u => !Tryd.prog.wantsStandIn u) = true := by kernel_rfl
        exact (show Tryd.prog.wantsStandIn t = false by simpa using List.all_eq_true.1 hall t hm)⟩)
    (by kernel_rfl)
#print axioms proved
end Go.Proofs.YtnpgadfoohjlnabDoor.treeTexts
namespace Go.Proofs.YtnpgadfoohjlnabDoor
/-- The row, under a short name, for the claim. -/
theorem treeTexts_holds : Rows.TreeTextsCardSaid := treeTexts.proved
end Go.Proofs.YtnpgadfoohjlnabDoor
