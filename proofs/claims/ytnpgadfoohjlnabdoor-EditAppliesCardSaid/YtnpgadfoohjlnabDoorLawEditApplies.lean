/- The law cavillaw04.EditApplies returns true for every input of its types, and leaves its arguments as they were: no condition but the laid package variables, which the card ties to the text. -/
import Derived.Test.YtnpgadfoohjlnabDoorRows
import Derived.Test.YtnpgadfoohjlnabDoorA1
import Derived.Test.YtnpgadfoohjlnabDoorY
import Derived.Test.YtnpgadfoohjlnabDoorCards
import Derived.Test.YtnpgadfoohjlnabDoorTie
import Derived.WalkKit
import Derived.ProofKit
import Derived.OpenShut
import Derived.ShutString
import Derived.ChangeOld
import Derived.Below
import Derived.SizedLaws
import Derived.SevenTiedAt
import Derived.LaidLaws
import Derived.LaidHandle
import Derived.LaidMore
import Derived.JoinedOf
import Derived.ChangeVars
import Derived.Handed
namespace Go.Proofs.YtnpgadfoohjlnabDoor.editApplies
open Go.ChangeShapes Go.WideShapes Go.ChangeAt Go.RowKit
open Go.ChangeMaps (open_string shut_string)
set_option linter.unusedVariables false
open Go.Proofs.YtnpgadfoohjlnabDoor.Opn Go.Proofs.YtnpgadfoohjlnabDoorW.PrintWords Go.Proofs.YtnpgadfoohjlnabDoor
theorem own : ownKnob Tryd.prog.godebug = none := by kernel_rfl
theorem laidOut : laidOutB Tryd.prog = true := by kernel_rfl
theorem opens5 : Opens Tryd.prog (Kd.int .u8) 5 (fun y => (Lit.int .u8 y).wf = true) := opens_int .u8 Tryd.underlying5 (by kernel_rfl)
theorem opens36 : Opens Tryd.prog (Kd.slice 5 (Kd.int .u8)) 36 (fun ys => ys.length ≤ maxLen ∧ ∀ y ∈ ys, (Lit.int .u8 y).wf = true) := opens_slice opens5 Tryd.underlying36 (by kernel_rfl)
theorem opens3 : Opens Tryd.prog (Kd.int .i64) 3 (fun y => (Lit.int .i64 y).wf = true) := opens_int .i64 Tryd.underlying3 (by kernel_rfl)
theorem opens9 : Opens Tryd.prog Kd.string 9 (fun y => y.size ≤ maxLen) := opens_string Tryd.underlying9 (by kernel_rfl)
def inv76 (y : QE.S76) : Prop := (Lit.int .i64 y.f0).wf = true ∧ (Lit.int .i64 y.f1).wf = true ∧ y.f2.size ≤ maxLen
theorem cells76 : Tryd.prog.cellsOf 76 = (Kd.pair (Kd.int .i64) (Kd.pair (Kd.int .i64) Kd.string)).sz := by kernel_rfl
theorem opens76 : Opens Tryd.prog QE.k76 76 inv76 := by
  have j2 : OpensAt Tryd.prog Kd.string [{ name := "Text", type := 9, offset := 2, embedded := false, tag := "", pkgPath := "", byteOffset := 16 }] 2 _ := at_last opens9 rfl
  have j1 : OpensAt Tryd.prog (Kd.pair (Kd.int .i64) Kd.string) [{ name := "To", type := 3, offset := 1, embedded := false, tag := "", pkgPath := "", byteOffset := 8 }, { name := "Text", type := 9, offset := 2, embedded := false, tag := "", pkgPath := "", byteOffset := 16 }] 1 _ := at_cons opens3 rfl j2
  have j0 : OpensAt Tryd.prog (Kd.pair (Kd.int .i64) (Kd.pair (Kd.int .i64) Kd.string)) [{ name := "From", type := 3, offset := 0, embedded := false, tag := "", pkgPath := "", byteOffset := 0 }, { name := "To", type := 3, offset := 1, embedded := false, tag := "", pkgPath := "", byteOffset := 8 }, { name := "Text", type := 9, offset := 2, embedded := false, tag := "", pkgPath := "", byteOffset := 16 }] 0 _ := at_cons opens3 rfl j1
  exact opens_iso (d := (Kd.pair (Kd.int .i64) (Kd.pair (Kd.int .i64) Kd.string))) (I := fun y => (Lit.int .i64 y.1).wf = true ∧ (Lit.int .i64 y.2.1).wf = true ∧ y.2.2.size ≤ maxLen) (opens_struct j0 Tryd.underlying76 cells76) _ (fun x => ⟨x.1, x.2.1, x.2.2⟩) (fun _ => rfl)
theorem opens37 : Opens Tryd.prog (Kd.slice 76 QE.k76) 37 (fun ys => ys.length ≤ maxLen ∧ ∀ y ∈ ys, inv76 y) := opens_slice opens76 Tryd.underlying37 (by kernel_rfl)
noncomputable def laidL {H : Type} : List (String × DataW H) := [("errors.errorType", Rows.laid_errors_errorType)]
theorem et : Tryd.prog.globalNamed "errors.errorType" = some 0 := by kernel_rfl
theorem rt : (Tryd.prog.cutTypes.find? (·.1 == "internal/reflectlite.rtype")).map (·.2) = some 134 := by kernel_rfl
theorem oneRow : ((List.range 199).filter fun t => Tryd.prog.rowNamed t [101, 114, 114, 111, 114]) = [30] := by kernel_rfl
theorem tsize : Tryd.prog.types.size = 199 := by kernel_rfl
theorem handle_of_laid {W : World} (h : laidMetH Tryd.prog laidL W) : QE.GL_ W := by
  have h' : laidMet Tryd.prog [] W ∧ handlesMet Tryd.prog laidL W := h
  obtain ⟨name, u, ty, e1, e2, e3, e4, e5⟩ := h'.2 _ (List.mem_singleton.2 rfl)
  have en : name = [101, 114, 114, 111, 114] := (Option.some.inj e1).symm
  subst en
  obtain rfl := Option.some.inj (rt.symm.trans e2)
  have hm : ty ∈ (List.range 199).filter fun t => Tryd.prog.rowNamed t [101, 114, 114, 111, 114] := List.mem_filter.2 ⟨List.mem_range.2 (by rw [← tsize]; exact e3), e4⟩
  rw [oneRow] at hm
  obtain rfl := List.mem_singleton.1 hm
  have hh : typeHandle Tryd.prog 30 = .pointer (some ⟨5, 30, none⟩) := by kernel_rfl
  rw [hh] at e5
  simpa [QE.GL_] using World.var?_cell et e5 0
noncomputable def laidWorld (os : Os) : World :=
  let w0 := World.holding Tryd.prog os ⟨#[], #[], []⟩
  { w0 with heap := w0.heap.modify 0 fun
      | .cells _ t frozen => .cells #[.iface 134 (.agg #[.pointer (some ⟨5, 30, none⟩)])] t frozen
      | o => o }
theorem laidWorld_met (os : Os) (args : Array Value) : laidMetH Tryd.prog laidL ((laidWorld os).forCall (fun _ _ => 0) ⟨#[], args, []⟩).memory :=
  laidMetH_of_parts (laidMet_nil _ _) (by kernel_rfl)
theorem walk (A0 : Option Addr) (c0 : Nat) (l0 : List Int) (A1 : Option Addr) (c1 : Nat) (l1 : List QE.S76) (w : World) (hG : QE.GL_ w) (hr0 : Kd.C (Kd.int .u8) w A0 l0.length l0) (hc0 : l0.length ≤ c0) (m0 : l0.length ≤ maxLen) (I0 : ∀ y ∈ l0, (Lit.int .u8 y).wf = true) (hr1 : Kd.C QE.k76 w A1 l1.length l1) (hc1 : l1.length ≤ c1) (m1 : l1.length ≤ maxLen) (I1 : ∀ y ∈ l1, inv76 y) :
    Calls Tryd.prog 4 #[.slice A0 l0.length c0, .slice A1 l1.length c1] w fun e w' => e = .returned (.bool true) ∧ Below w.heap.size w w' := by
  obtain ⟨k, hk⟩ := Plain.EditApplies l0 l1 (fun x hx => by simpa [Lit.wf, IntKind.min, IntKind.max, IntKind.signed, IntKind.bits] using I0 x hx)
  exact QE.cavillaw04_EditApplies.calls k A0 c0 l0 A1 c1 l1 true w hG hr0 hc0 hr1 hc1 hk
set_option maxRecDepth 100000 in
theorem lifted (os : Os) (started : os.Started) (H : Type) (enc : TypeId × Value → H) :
    ReturnsInHanded {} Tryd.checked os 4 .any (fun w args => (Rows.editAppliesSpec.pre enc Tryd.prog Tryd.f4 [] false w args ∧ laidMetH Tryd.prog laidL w) ∧ sizedMet enc Tryd.prog Tryd.f4 (OpenSpec.ofChange Rows.editAppliesSpec) false w args) (Rows.editAppliesSpec.post enc Tryd.prog Tryd.f4 false true false false) := by
  refine returnsInHanded_of_change_and (C := Tryd.checked) (X := fun w _ => laidMetH Tryd.prog laidL w) (fun _ _ _ hh h => h.of_heap hh) own started (by kernel_rfl) Tryd.func4
    (ChangeSpec.witness_at (enc := enc) (C := Tryd.checked) (os := os) (X := fun w _ => laidMetH Tryd.prog laidL w) false (laidWorld os) #[.slice none 0 0, .slice none 0 0] 8 rfl (by kernel_rfl) (by kernel_rfl) (by kernel_rfl) (by kernel_rfl) (by kernel_rfl) (laidWorld_met os _)) ?_
  intro W base args ds gs before hval0 hW hcnd hsz0 hL _
  have hval : ∀ (j : Nat) t v, Tryd.f4.params[j]? = some t → args[j]? = some v → Value.okWide Tryd.prog W .any base t v := hval0
  have hW' := hW
  obtain ⟨p, q, hA0, hV, rfl, hfz, hnd⟩ := hW
  have hA : DataW.TrodAll enc Tryd.prog W 0 (fun _ => true) true Tryd.f4.params.toList args.toList ds p := hA0
  rw [Tryd.params4] at hA hval
  obtain ⟨v0, vs0, d0, ds0, p0, q0, hargs, rfl, rfl, h0, r0⟩ := trodAll_cons hA
  obtain ⟨v1, vs1, d1, ds1, p1, q1, rfl, rfl, rfl, h1, r1⟩ := trodAll_cons r0
  obtain ⟨rfl, rfl, rfl⟩ := trodAll_nil r1
  obtain rfl : args = #[v0, v1] := by cases args; simp_all
  obtain ⟨rfl, rfl⟩ := trodVars_none hV
  have k0 := h0
  have lt0 : ∀ x ∈ p0, x.block < W.heap.size := by obtain ⟨m, hm⟩ := k0; exact DataW.trod_lt m _ _ _ hm
  obtain ⟨A0, c0, l0, rfl, hc0, hr0, m0, I0⟩ := arg_slice opens5 Tryd.underlying36 (by kernel_rfl) h0 (okWide_slice Tryd.underlying36 (hval 0 36 v0 rfl rfl))
  have k1 := h1
  have lt1 : ∀ x ∈ p1, x.block < W.heap.size := by obtain ⟨m, hm⟩ := k1; exact DataW.trod_lt m _ _ _ hm
  obtain ⟨A1, c1, l1, rfl, hc1, hr1, m1, I1⟩ := arg_slice opens76 Tryd.underlying37 (by kernel_rfl) h1 (okWide_slice Tryd.underlying37 (hval 1 37 v1 rfl rfl))
  clear hA0 hval0 hsz0
  refine (walk A0 c0 l0 A1 c1 l1 W (handle_of_laid hL) hr0 hc0 m0 I0 hr1 hc1 m1 I1).mono fun e W' ⟨he, bel⟩ => ?_
  subst he
  exact ⟨_, rfl, _, _, _, [], _, [], hW', trodAll_mk1 (shut_bool Tryd.underlying4 _), (trodAll_cons_mk (Below.trod laidOut (by kernel_rfl) (of_decide_eq_true (by kernel_rfl)) k0 bel lt0) (trodAll_cons_mk (Below.trod laidOut (by kernel_rfl) (of_decide_eq_true (by kernel_rfl)) k1 bel lt1) trodAll_mk0)), rfl, bel.frame _, fun h => by cases h⟩
theorem over : Rows.editAppliesRow.holds Tryd.pinned (OpenSpec.ofChange Rows.editAppliesSpec) :=
  OpenClaim.holds_of_wide 4 Tryd.f4 rfl rfl rfl rfl rfl rfl rfl ⟨rfl, rfl, rfl, rfl, rfl⟩ rfl rfl rfl rfl rfl (by kernel_rfl) Tryd.func4 (by kernel_rfl)
    (of_decide_eq_true (by kernel_rfl)) (by unfold Func.isWrapper; first | (rw [if_pos (by decide +kernel)]; kernel_rfl) | (rw [if_neg (by decide +kernel)]; exact ⟨rfl, rfl⟩))
    (fun os started H enc _ => lifted os started H enc)
theorem proved : Rows.EditAppliesCardSaid :=
  Claim7.holds_tied_plain_at .later [] [.handle] true (true, "b8463492d09ccbdcbf49988d94c1d4a233a4ae3cd95ae2b3cef5ba55e3b5bc7c") true
    over (fun _ h => by cases h) (by kernel_rfl) (fun _ h => by cases h) editApplies_row_tie rfl ⟨rfl, rfl⟩ (by kernel_rfl) rfl
    (fun f fn hf hfn => by
      obtain rfl : f = 4 := Option.some.inj ((show Tryd.prog.funcNamed "cavil/cavillaw04.EditApplies" = some 4 by kernel_rfl).symm.trans hf) |>.symm
      obtain rfl : fn = Tryd.f4 := (Option.some.inj (Tryd.func4.symm.trans hfn)).symm
      exact ⟨by kernel_rfl, fun j t ht => by
        rw [Tryd.params4] at ht
        have hm : t ∈ [36, 37] := by simpa using Array.mem_of_getElem? ht
        have hall : ([36, 37].all fun u => !Tryd.prog.wantsStandIn u) = true := by kernel_rfl
        exact (show Tryd.prog.wantsStandIn t = false by simpa using List.all_eq_true.1 hall t hm)⟩)
    (by kernel_rfl)
#print axioms proved
end Go.Proofs.YtnpgadfoohjlnabDoor.editApplies
namespace Go.Proofs.YtnpgadfoohjlnabDoor
/-- The row, under a short name, for the claim. -/
theorem editApplies_holds : Rows.EditAppliesCardSaid := editApplies.proved
end Go.Proofs.YtnpgadfoohjlnabDoor
