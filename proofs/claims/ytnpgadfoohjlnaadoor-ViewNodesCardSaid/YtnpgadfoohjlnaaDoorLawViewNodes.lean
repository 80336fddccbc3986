/- The law cavillaw15.ViewNodes returns true for every input of its types, and leaves its arguments as they were: no condition but the laid package variables, which the card ties to the text. -/
import Derived.Test.YtnpgadfoohjlnaaDoorRows
import Derived.Test.YtnpgadfoohjlnaaDoorVN5
import Derived.Test.YtnpgadfoohjlnaaDoorY
import Derived.Test.YtnpgadfoohjlnaaDoorCards
import Derived.Test.YtnpgadfoohjlnaaDoorTie
import Derived.WalkKit
import Derived.ProofKit
import Derived.OpenShut
import Derived.ShutString
import Derived.ChangeOld
import Derived.Below
import Derived.SizedLaws
import Derived.SevenTiedAt
import Derived.LaidLaws
import Derived.LaidHandle
import Derived.LaidMore
import Derived.JoinedOf
import Derived.ChangeVars
import Derived.Handed
namespace Go.Proofs.YtnpgadfoohjlnaaDoor.viewNodes
open Go.ChangeShapes Go.WideShapes Go.ChangeAt Go.RowKit
open Go.ChangeMaps (open_string shut_string)
set_option linter.unusedVariables false
open Go.Proofs.YtnpgadfoohjlnaaDoor.Opn Go.Proofs.YtnpgadfoohjlnaaDoorW.PrintWords Go.Proofs.YtnpgadfoohjlnaaDoor
theorem own : ownKnob Tryd.prog.godebug = none := by kernel_rfl
theorem laidOut : laidOutB Tryd.prog = true := by kernel_rfl
theorem opens5 : Opens Tryd.prog (Kd.int .u8) 5 (fun y => (Lit.int .u8 y).wf = true) := opens_int .u8 Tryd.underlying5 (by kernel_rfl)
theorem opens47 : Opens Tryd.prog (Kd.slice 5 (Kd.int .u8)) 47 (fun ys => ys.length ≤ maxLen ∧ ∀ y ∈ ys, (Lit.int .u8 y).wf = true) := opens_slice opens5 Tryd.underlying47 (by kernel_rfl)
theorem opens3 : Opens Tryd.prog (Kd.int .i64) 3 (fun y => (Lit.int .i64 y).wf = true) := opens_int .i64 Tryd.underlying3 (by kernel_rfl)
theorem opens4 : Opens Tryd.prog Kd.bool 4 (fun _ => True) := opens_bool Tryd.underlying4 (by kernel_rfl)
theorem opens82 : Opens Tryd.prog (Kd.int .i64) 82 (fun y => (Lit.int .i64 y).wf = true) := opens_int .i64 Tryd.underlying82 (by kernel_rfl)
def inv103 (y : QV.S103) : Prop := (Lit.int .i64 y.f0).wf = true ∧ (Lit.int .i64 y.f1).wf = true ∧ (Lit.int .i64 y.f2).wf = true ∧ True ∧ (Lit.int .i64 y.f4).wf = true
theorem cells103 : Tryd.prog.cellsOf 103 = (Kd.pair (Kd.int .i64) (Kd.pair (Kd.int .i64) (Kd.pair (Kd.int .i64) (Kd.pair Kd.bool (Kd.int .i64))))).sz := by kernel_rfl
theorem opens103 : Opens Tryd.prog QV.k103 103 inv103 := by
  have j4 : OpensAt Tryd.prog (Kd.int .i64) [{ name := "Err", type := 82, offset := 4, embedded := false, tag := "", pkgPath := "", byteOffset := 32 }] 4 _ := at_last opens82 rfl
  have j3 : OpensAt Tryd.prog (Kd.pair Kd.bool (Kd.int .i64)) [{ name := "Auto", type := 4, offset := 3, embedded := false, tag := "", pkgPath := "", byteOffset := 24 }, { name := "Err", type := 82, offset := 4, embedded := false, tag := "", pkgPath := "", byteOffset := 32 }] 3 _ := at_cons opens4 rfl j4
  have j2 : OpensAt Tryd.prog (Kd.pair (Kd.int .i64) (Kd.pair Kd.bool (Kd.int .i64))) [{ name := "To", type := 3, offset := 2, embedded := false, tag := "", pkgPath := "", byteOffset := 16 }, { name := "Auto", type := 4, offset := 3, embedded := false, tag := "", pkgPath := "", byteOffset := 24 }, { name := "Err", type := 82, offset := 4, embedded := false, tag := "", pkgPath := "", byteOffset := 32 }] 2 _ := at_cons opens3 rfl j3
  have j1 : OpensAt Tryd.prog (Kd.pair (Kd.int .i64) (Kd.pair (Kd.int .i64) (Kd.pair Kd.bool (Kd.int .i64)))) [{ name := "From", type := 3, offset := 1, embedded := false, tag := "", pkgPath := "", byteOffset := 8 }, { name := "To", type := 3, offset := 2, embedded := false, tag := "", pkgPath := "", byteOffset := 16 }, { name := "Auto", type := 4, offset := 3, embedded := false, tag := "", pkgPath := "", byteOffset := 24 }, { name := "Err", type := 82, offset := 4, embedded := false, tag := "", pkgPath := "", byteOffset := 32 }] 1 _ := at_cons opens3 rfl j2
  have j0 : OpensAt Tryd.prog (Kd.pair (Kd.int .i64) (Kd.pair (Kd.int .i64) (Kd.pair (Kd.int .i64) (Kd.pair Kd.bool (Kd.int .i64))))) [{ name := "Kind", type := 3, offset := 0, embedded := false, tag := "", pkgPath := "", byteOffset := 0 }, { name := "From", type := 3, offset := 1, embedded := false, tag := "", pkgPath := "", byteOffset := 8 }, { name := "To", type := 3, offset := 2, embedded := false, tag := "", pkgPath := "", byteOffset := 16 }, { name := "Auto", type := 4, offset := 3, embedded := false, tag := "", pkgPath := "", byteOffset := 24 }, { name := "Err", type := 82, offset := 4, embedded := false, tag := "", pkgPath := "", byteOffset := 32 }] 0 _ := at_cons opens3 rfl j1
  exact opens_iso (d := (Kd.pair (Kd.int .i64) (Kd.pair (Kd.int .i64) (Kd.pair (Kd.int .i64) (Kd.pair Kd.bool (Kd.int .i64)))))) (I := fun y => (Lit.int .i64 y.1).wf = true ∧ (Lit.int .i64 y.2.1).wf = true ∧ (Lit.int .i64 y.2.2.1).wf = true ∧ True ∧ (Lit.int .i64 y.2.2.2.2).wf = true) (opens_struct j0 Tryd.underlying103 cells103) _ (fun x => ⟨x.1, x.2.1, x.2.2.1, x.2.2.2.1, x.2.2.2.2⟩) (fun _ => rfl)
theorem opens66 : Opens Tryd.prog (Kd.slice 103 QV.k103) 66 (fun ys => ys.length ≤ maxLen ∧ ∀ y ∈ ys, inv103 y) := opens_slice opens103 Tryd.underlying66 (by kernel_rfl)
theorem opens31 : Opens Tryd.prog (Kd.slice 3 (Kd.int .i64)) 31 (fun ys => ys.length ≤ maxLen ∧ ∀ y ∈ ys, (Lit.int .i64 y).wf = true) := opens_slice opens3 Tryd.underlying31 (by kernel_rfl)
def inv33 (y : QV.S33) : Prop := (Lit.int .i64 y.f0).wf = true ∧ (Lit.int .i64 y.f1).wf = true ∧ (Lit.int .i64 y.f2).wf = true ∧ (y.f3.length ≤ maxLen ∧ ∀ z ∈ y.f3, (Lit.int .i64 z).wf = true)
theorem cells33 : Tryd.prog.cellsOf 33 = (Kd.pair (Kd.int .i64) (Kd.pair (Kd.int .i64) (Kd.pair (Kd.int .i64) (Kd.slice 3 (Kd.int .i64))))).sz := by kernel_rfl
theorem opens33 : Opens Tryd.prog QV.k33 33 inv33 := by
  have j3 : OpensAt Tryd.prog (Kd.slice 3 (Kd.int .i64)) [{ name := "Kids", type := 31, offset := 3, embedded := false, tag := "", pkgPath := "", byteOffset := 24 }] 3 _ := at_last opens31 rfl
  have j2 : OpensAt Tryd.prog (Kd.pair (Kd.int .i64) (Kd.slice 3 (Kd.int .i64))) [{ name := "To", type := 3, offset := 2, embedded := false, tag := "", pkgPath := "", byteOffset := 16 }, { name := "Kids", type := 31, offset := 3, embedded := false, tag := "", pkgPath := "", byteOffset := 24 }] 2 _ := at_cons opens3 rfl j3
  have j1 : OpensAt Tryd.prog (Kd.pair (Kd.int .i64) (Kd.pair (Kd.int .i64) (Kd.slice 3 (Kd.int .i64)))) [{ name := "From", type := 3, offset := 1, embedded := false, tag := "", pkgPath := "", byteOffset := 8 }, { name := "To", type := 3, offset := 2, embedded := false, tag := "", pkgPath := "", byteOffset := 16 }, { name := "Kids", type := 31, offset := 3, embedded := false, tag := "", pkgPath := "", byteOffset := 24 }] 1 _ := at_cons opens3 rfl j2
  have j0 : OpensAt Tryd.prog (Kd.pair (Kd.int .i64) (Kd.pair (Kd.int .i64) (Kd.pair (Kd.int .i64) (Kd.slice 3 (Kd.int .i64))))) [{ name := "Kind", type := 3, offset := 0, embedded := false, tag := "", pkgPath := "", byteOffset := 0 }, { name := "From", type := 3, offset := 1, embedded := false, tag := "", pkgPath := "", byteOffset := 8 }, { name := "To", type := 3, offset := 2, embedded := false, tag := "", pkgPath := "", byteOffset := 16 }, { name := "Kids", type := 31, offset := 3, embedded := false, tag := "", pkgPath := "", byteOffset := 24 }] 0 _ := at_cons opens3 rfl j1
  exact opens_iso (d := (Kd.pair (Kd.int .i64) (Kd.pair (Kd.int .i64) (Kd.pair (Kd.int .i64) (Kd.slice 3 (Kd.int .i64)))))) (I := fun y => (Lit.int .i64 y.1).wf = true ∧ (Lit.int .i64 y.2.1).wf = true ∧ (Lit.int .i64 y.2.2.1).wf = true ∧ (y.2.2.2.length ≤ maxLen ∧ ∀ z ∈ y.2.2.2, (Lit.int .i64 z).wf = true)) (opens_struct j0 Tryd.underlying33 cells33) _ (fun x => ⟨x.1, x.2.1, x.2.2.1, x.2.2.2⟩) (fun _ => rfl)
theorem opens22 : Opens Tryd.prog (Kd.slice 33 QV.k33) 22 (fun ys => ys.length ≤ maxLen ∧ ∀ y ∈ ys, inv33 y) := opens_slice opens33 Tryd.underlying22 (by kernel_rfl)
def inv24 (y : QV.S24) : Prop := (y.f0.length ≤ maxLen ∧ ∀ z ∈ y.f0, inv33 z)
theorem cells24 : Tryd.prog.cellsOf 24 = (Kd.slice 33 QV.k33).sz := by kernel_rfl
theorem opens24 : Opens Tryd.prog QV.k24 24 inv24 := by
  have j0 : OpensAt Tryd.prog (Kd.slice 33 QV.k33) [{ name := "Nodes", type := 22, offset := 0, embedded := false, tag := "", pkgPath := "", byteOffset := 0 }] 0 _ := at_last opens22 rfl
  exact opens_iso (d := (Kd.slice 33 QV.k33)) (I := fun y => (y.length ≤ maxLen ∧ ∀ z ∈ y, inv33 z)) (opens_struct j0 Tryd.underlying24 cells24) _ (fun x => ⟨x⟩) (fun _ => rfl)
def inv68 (y : QV.S100) : Prop := (y.f0.length ≤ maxLen ∧ ∀ z ∈ y.f0, (Lit.int .u8 z).wf = true) ∧ (y.f1.length ≤ maxLen ∧ ∀ z ∈ y.f1, inv103 z) ∧ inv24 y.f2
theorem cells68 : Tryd.prog.cellsOf 68 = (Kd.pair (Kd.slice 5 (Kd.int .u8)) (Kd.pair (Kd.slice 103 QV.k103) QV.k24)).sz := by kernel_rfl
theorem opens68 : Opens Tryd.prog QV.k100 68 inv68 := by
  have j2 : OpensAt Tryd.prog QV.k24 [{ name := "Tree", type := 24, offset := 2, embedded := false, tag := "", pkgPath := "", byteOffset := 48 }] 2 _ := at_last opens24 rfl
  have j1 : OpensAt Tryd.prog (Kd.pair (Kd.slice 103 QV.k103) QV.k24) [{ name := "Toks", type := 66, offset := 1, embedded := false, tag := "", pkgPath := "", byteOffset := 24 }, { name := "Tree", type := 24, offset := 2, embedded := false, tag := "", pkgPath := "", byteOffset := 48 }] 1 _ := at_cons opens66 rfl j2
  have j0 : OpensAt Tryd.prog (Kd.pair (Kd.slice 5 (Kd.int .u8)) (Kd.pair (Kd.slice 103 QV.k103) QV.k24)) [{ name := "Text", type := 47, offset := 0, embedded := false, tag := "", pkgPath := "", byteOffset := 0 }, { name := "Toks", type := 66, offset := 1, embedded := false, tag := "", pkgPath := "", byteOffset := 24 }, { name := "Tree", type := 24, offset := 2, embedded := false, tag := "", pkgPath := "", byteOffset := 48 }] 0 _ := at_cons opens47 rfl j1
  exact opens_iso (d := (Kd.pair (Kd.slice 5 (Kd.int .u8)) (Kd.pair (Kd.slice 103 QV.k103) QV.k24))) (I := fun y => (y.1.length ≤ maxLen ∧ ∀ z ∈ y.1, (Lit.int .u8 z).wf = true) ∧ (y.2.1.length ≤ maxLen ∧ ∀ z ∈ y.2.1, inv103 z) ∧ inv24 y.2.2) (opens_struct j0 Tryd.underlying68 cells68) _ (fun x => ⟨x.1, x.2.1, x.2.2⟩) (fun _ => rfl)
noncomputable def laidL {H : Type} : List (String × DataW H) := [("errors.errorType", Rows.laid_errors_errorType)]
theorem et : Tryd.prog.globalNamed "errors.errorType" = some 0 := by kernel_rfl
theorem rt : (Tryd.prog.cutTypes.find? (·.1 == "internal/reflectlite.rtype")).map (·.2) = some 127 := by kernel_rfl
theorem oneRow : ((List.range 186).filter fun t => Tryd.prog.rowNamed t [101, 114, 114, 111, 114]) = [27] := by kernel_rfl
theorem tsize : Tryd.prog.types.size = 186 := by kernel_rfl
theorem handle_of_laid {W : World} (h : laidMetH Tryd.prog laidL W) : QV.GL_ W := by
  have h' : laidMet Tryd.prog [] W ∧ handlesMet Tryd.prog laidL W := h
  obtain ⟨name, u, ty, e1, e2, e3, e4, e5⟩ := h'.2 _ (List.mem_singleton.2 rfl)
  have en : name = [101, 114, 114, 111, 114] := (Option.some.inj e1).symm
  subst en
  obtain rfl := Option.some.inj (rt.symm.trans e2)
  have hm : ty ∈ (List.range 186).filter fun t => Tryd.prog.rowNamed t [101, 114, 114, 111, 114] := List.mem_filter.2 ⟨List.mem_range.2 (by rw [← tsize]; exact e3), e4⟩
  rw [oneRow] at hm
  obtain rfl := List.mem_singleton.1 hm
  have hh : typeHandle Tryd.prog 27 = .pointer (some ⟨4, 27, none⟩) := by kernel_rfl
  rw [hh] at e5
  simpa [QV.GL_] using World.var?_cell et e5 0
noncomputable def laidWorld (os : Os) : World :=
  let w0 := World.holding Tryd.prog os ⟨#[], #[], []⟩
  { w0 with heap := w0.heap.modify 0 fun
      | .cells _ t frozen => .cells #[.iface 127 (.agg #[.pointer (some ⟨4, 27, none⟩)])] t frozen
      | o => o }
theorem laidWorld_met (os : Os) (args : Array Value) : laidMetH Tryd.prog laidL ((laidWorld os).forCall (fun _ _ => 0) ⟨#[], args, []⟩).memory :=
  laidMetH_of_parts (laidMet_nil _ _) (by kernel_rfl)
theorem walk (A0_0 : Option Addr) (c0_0 : Nat) (A0_1 : Option Addr) (c0_1 : Nat) (A0_2 : Option Addr) (c0_2 : Nat) (s0 : QV.S100) (a1 : Int) (a2 : Int) (w : World) (hG : QV.GL_ w) (hr0_0 : Kd.C (Kd.int .u8) w A0_0 s0.f0.length s0.f0) (hc0_0 : s0.f0.length ≤ c0_0) (hr0_1 : Kd.C QV.k103 w A0_1 s0.f1.length s0.f1) (hc0_1 : s0.f1.length ≤ c0_1) (hr0_2 : Kd.C QV.k33 w A0_2 s0.f2.f0.length s0.f2.f0) (hc0_2 : s0.f2.f0.length ≤ c0_2) (I0 : inv68 s0) (I1 : (Lit.int .i64 a1).wf = true) (I2 : (Lit.int .i64 a2).wf = true) :
    Calls Tryd.prog 9 #[.agg #[.slice A0_0 s0.f0.length c0_0, .slice A0_1 s0.f1.length c0_1, .slice A0_2 s0.f2.f0.length c0_2], .int .i64 a1, .int .i64 a2] w fun e w' => e = .returned (.bool true) ∧ Below w.heap.size w w' := by
  obtain h | ⟨q, h⟩ : Plain.badOf (Plain.fewOf s0.f2.f0) ((s0.f1.take 60).length : Int) = none ∨ ∃ q, Plain.badOf (Plain.fewOf s0.f2.f0) ((s0.f1.take 60).length : Int) = some q := by
    cases Plain.badOf (Plain.fewOf s0.f2.f0) ((s0.f1.take 60).length : Int) with
    | none => exact .inl rfl
    | some q => exact .inr ⟨q, rfl⟩
  · obtain ⟨k, hk⟩ := Plain.ViewNodes_ok s0.f0 s0.f1 s0.f2.f0 a1 a2 h
    exact QV.cavillaw15_ViewNodes.calls k A0_0 c0_0 s0.f0 A0_1 c0_1 s0.f1 A0_2 c0_2 s0.f2.f0 a1 a2 true w hG hr0_0 hc0_0 hr0_1 hc0_1 hr0_2 hc0_2 hk rfl
  · obtain ⟨k, hk⟩ := Plain.ViewNodes_bad s0.f0 s0.f1 s0.f2.f0 a1 a2 h
    exact QV.cavillaw15_ViewNodes_nil.calls k A0_0 c0_0 s0.f0 A0_1 c0_1 s0.f1 A0_2 c0_2 s0.f2.f0 a1 a2 true w hG hr0_0 hc0_0 hr0_1 hc0_1 hr0_2 hc0_2 hk rfl
set_option maxRecDepth 100000 in
theorem lifted (os : Os) (started : os.Started) (H : Type) (enc : TypeId × Value → H) :
    ReturnsInHanded {} Tryd.checked os 9 .any (fun w args => (Rows.viewNodesSpec.pre enc Tryd.prog Tryd.f9 [] false w args ∧ laidMetH Tryd.prog laidL w) ∧ sizedMet enc Tryd.prog Tryd.f9 (OpenSpec.ofChange Rows.viewNodesSpec) false w args) (Rows.viewNodesSpec.post enc Tryd.prog Tryd.f9 false true false false) := by
  refine returnsInHanded_of_change_and (C := Tryd.checked) (X := fun w _ => laidMetH Tryd.prog laidL w) (fun _ _ _ hh h => h.of_heap hh) own started (by kernel_rfl) Tryd.func9
    (ChangeSpec.witness_at (enc := enc) (C := Tryd.checked) (os := os) (X := fun w _ => laidMetH Tryd.prog laidL w) false (laidWorld os) #[.agg #[.slice none 0 0, .slice none 0 0, .slice none 0 0], .int .i64 0, .int .i64 0] 8 rfl (by kernel_rfl) (by kernel_rfl) (by kernel_rfl) (by kernel_rfl) (by kernel_rfl) (laidWorld_met os _)) ?_
  intro W base args ds gs before hval0 hW hcnd hsz0 hL _
  have hval : ∀ (j : Nat) t v, Tryd.f9.params[j]? = some t → args[j]? = some v → Value.okWide Tryd.prog W .any base t v := hval0
  have hW' := hW
  obtain ⟨p, q, hA0, hV, rfl, hfz, hnd⟩ := hW
  have hA : DataW.TrodAll enc Tryd.prog W 0 (fun _ => true) true Tryd.f9.params.toList args.toList ds p := hA0
  rw [Tryd.params9] at hA hval
  obtain ⟨v0, vs0, d0, ds0, p0, q0, hargs, rfl, rfl, h0, r0⟩ := trodAll_cons hA
  obtain ⟨v1, vs1, d1, ds1, p1, q1, rfl, rfl, rfl, h1, r1⟩ := trodAll_cons r0
  obtain ⟨v2, vs2, d2, ds2, p2, q2, rfl, rfl, rfl, h2, r2⟩ := trodAll_cons r1
  obtain ⟨rfl, rfl, rfl⟩ := trodAll_nil r2
  obtain rfl : args = #[v0, v1, v2] := by cases args; simp_all
  obtain ⟨rfl, rfl⟩ := trodVars_none hV
  have k0 := h0
  have lt0 : ∀ x ∈ p0, x.block < W.heap.size := by obtain ⟨m, hm⟩ := k0; exact DataW.trod_lt m _ _ _ hm
  obtain ⟨cs0, s0, rfl, hk0, I0⟩ := arg_struct opens68 h0 (okWide_struct Tryd.underlying68 (hval 0 68 v0 rfl rfl))
  obtain ⟨A0_0, c0_0, A0_1, c0_1, A0_2, c0_2, hcs0, hc0_0, hr0_0, hc0_1, hr0_1, hc0_2, hr0_2⟩ := QV.k100_open hk0
  obtain rfl : cs0 = #[.slice A0_0 s0.f0.length c0_0, .slice A0_1 s0.f1.length c0_1, .slice A0_2 s0.f2.f0.length c0_2] := by rw [← Array.toArray_toList (xs := cs0), hcs0]
  obtain ⟨a1, rfl, rfl, rfl, I1⟩ := open_int Tryd.underlying3 (hval 1 3 v1 rfl rfl) h1
  obtain ⟨a2, rfl, rfl, rfl, I2⟩ := open_int Tryd.underlying3 (hval 2 3 v2 rfl rfl) h2
  clear hA0 hval0 hsz0
  refine (walk A0_0 c0_0 A0_1 c0_1 A0_2 c0_2 s0 a1 a2 W (handle_of_laid hL) hr0_0 hc0_0 hr0_1 hc0_1 hr0_2 hc0_2 I0 I1 I2).mono fun e W' ⟨he, bel⟩ => ?_
  subst he
  exact ⟨_, rfl, _, _, _, [], _, [], hW', trodAll_mk1 (shut_bool Tryd.underlying4 _), (trodAll_cons_mk (Below.trod laidOut (by kernel_rfl) (of_decide_eq_true (by kernel_rfl)) k0 bel lt0) (trodAll_cons_mk (shut_int Tryd.underlying3 I1) (trodAll_cons_mk (shut_int Tryd.underlying3 I2) trodAll_mk0))), rfl, bel.frame _, fun h => by cases h⟩
theorem over : Rows.viewNodesRow.holds Tryd.pinned (OpenSpec.ofChange Rows.viewNodesSpec) :=
  OpenClaim.holds_of_wide 9 Tryd.f9 rfl rfl rfl rfl rfl rfl rfl ⟨rfl, rfl, rfl, rfl, rfl⟩ rfl rfl rfl rfl rfl (by kernel_rfl) Tryd.func9 (by kernel_rfl)
    (of_decide_eq_true (by kernel_rfl)) (by unfold Func.isWrapper; first | (rw [if_pos (by decide +kernel)]; kernel_rfl) | (rw [if_neg (by decide +kernel)]; exact ⟨rfl, rfl⟩))
    (fun os started H enc _ => lifted os started H enc)
theorem proved : Rows.ViewNodesCardSaid :=
  Claim7.holds_tied_plain_at .later [] [.handle] true (true, "51722cd6523613e3e657431a994d93c6fac083b71d439e7272bc160adb16c375") true
    over (fun _ h => by cases h) (by kernel_rfl) (fun _ h => by cases h) viewNodes_row_tie rfl ⟨rfl, rfl⟩ (by kernel_rfl) rfl
    (fun f fn hf hfn => by
      obtain rfl : f = 9 := Option.some.inj ((show Tryd.prog.funcNamed "cavil/cavillaw15.ViewNodes" = some 9 by kernel_rfl).symm.trans hf) |>.symm
      obtain rfl : fn = Tryd.f9 := (Option.some.inj (Tryd.func9.symm.trans hfn)).symm
      exact ⟨by kernel_rfl, fun j t ht => by
        rw [Tryd.params9] at ht
        have hm : t ∈ [68, 3, 3] := by simpa using Array.mem_of_getElem? ht
        have hall : ([68, 3, 3].all fun u => !Tryd.prog.wantsStandIn u) = true := by kernel_rfl
        exact (show Tryd.prog.wantsStandIn t = false by simpa using List.all_eq_true.1 hall t hm)⟩)
    (by kernel_rfl)
#print axioms proved
end Go.Proofs.YtnpgadfoohjlnaaDoor.viewNodes
namespace Go.Proofs.YtnpgadfoohjlnaaDoor
/-- The row, under a short name, for the claim. -/
theorem viewNodes_holds : Rows.ViewNodesCardSaid := viewNodes.proved
end Go.Proofs.YtnpgadfoohjlnaaDoor
