/- The law cavillaw13.TreeLooks returns true for every input of its types, and leaves its arguments as they were: no condition but the laid package variables, which the card ties to the text. -/
import Derived.Test.YtnpgadfoohjlnaaDoorRows
import Derived.Test.YtnpgadfoohjlnaaDoorT7
import Derived.Test.YtnpgadfoohjlnaaDoorY
import Derived.Test.YtnpgadfoohjlnaaDoorCards
import Derived.Test.YtnpgadfoohjlnaaDoorTie
import Derived.WalkKit
import Derived.ProofKit
import Derived.OpenShut
import Derived.ShutString
import Derived.ChangeOld
import Derived.Below
import Derived.SizedLaws
import Derived.SevenTiedAt
import Derived.LaidLaws
import Derived.LaidHandle
import Derived.LaidMore
import Derived.JoinedOf
import Derived.ChangeVars
import Derived.Handed
namespace Go.Proofs.YtnpgadfoohjlnaaDoor.treeLooks
open Go.ChangeShapes Go.WideShapes Go.ChangeAt Go.RowKit
open Go.ChangeMaps (open_string shut_string)
set_option linter.unusedVariables false
open Go.Proofs.YtnpgadfoohjlnaaDoor.Opn Go.Proofs.YtnpgadfoohjlnaaDoorW.PrintWords Go.Proofs.YtnpgadfoohjlnaaDoor
theorem own : ownKnob Tryd.prog.godebug = none := by kernel_rfl
theorem laidOut : laidOutB Tryd.prog = true := by kernel_rfl
theorem opens3 : Opens Tryd.prog (Kd.int .i64) 3 (fun y => (Lit.int .i64 y).wf = true) := opens_int .i64 Tryd.underlying3 (by kernel_rfl)
theorem opens31 : Opens Tryd.prog (Kd.slice 3 (Kd.int .i64)) 31 (fun ys => ys.length ≤ maxLen ∧ ∀ y ∈ ys, (Lit.int .i64 y).wf = true) := opens_slice opens3 Tryd.underlying31 (by kernel_rfl)
def inv33 (y : QT.S33) : Prop := (Lit.int .i64 y.f0).wf = true ∧ (Lit.int .i64 y.f1).wf = true ∧ (Lit.int .i64 y.f2).wf = true ∧ (y.f3.length ≤ maxLen ∧ ∀ z ∈ y.f3, (Lit.int .i64 z).wf = true)
theorem cells33 : Tryd.prog.cellsOf 33 = (Kd.pair (Kd.int .i64) (Kd.pair (Kd.int .i64) (Kd.pair (Kd.int .i64) (Kd.slice 3 (Kd.int .i64))))).sz := by kernel_rfl
theorem opens33 : Opens Tryd.prog QT.k33 33 inv33 := by
  have j3 : OpensAt Tryd.prog (Kd.slice 3 (Kd.int .i64)) [{ name := "Kids", type := 31, offset := 3, embedded := false, tag := "", pkgPath := "", byteOffset := 24 }] 3 _ := at_last opens31 rfl
  have j2 : OpensAt Tryd.prog (Kd.pair (Kd.int .i64) (Kd.slice 3 (Kd.int .i64))) [{ name := "To", type := 3, offset := 2, embedded := false, tag := "", pkgPath := "", byteOffset := 16 }, { name := "Kids", type := 31, offset := 3, embedded := false, tag := "", pkgPath := "", byteOffset := 24 }] 2 _ := at_cons opens3 rfl j3
  have j1 : OpensAt Tryd.prog (Kd.pair (Kd.int .i64) (Kd.pair (Kd.int .i64) (Kd.slice 3 (Kd.int .i64)))) [{ name := "From", type := 3, offset := 1, embedded := false, tag := "", pkgPath := "", byteOffset := 8 }, { name := "To", type := 3, offset := 2, embedded := false, tag := "", pkgPath := "", byteOffset := 16 }, { name := "Kids", type := 31, offset := 3, embedded := false, tag := "", pkgPath := "", byteOffset := 24 }] 1 _ := at_cons opens3 rfl j2
  have j0 : OpensAt Tryd.prog (Kd.pair (Kd.int .i64) (Kd.pair (Kd.int .i64) (Kd.pair (Kd.int .i64) (Kd.slice 3 (Kd.int .i64))))) [{ name := "Kind", type := 3, offset := 0, embedded := false, tag := "", pkgPath := "", byteOffset := 0 }, { name := "From", type := 3, offset := 1, embedded := false, tag := "", pkgPath := "", byteOffset := 8 }, { name := "To", type := 3, offset := 2, embedded := false, tag := "", pkgPath := "", byteOffset := 16 }, { name := "Kids", type := 31, offset := 3, embedded := false, tag := "", pkgPath := "", byteOffset := 24 }] 0 _ := at_cons opens3 rfl j1
  exact opens_iso (d := (Kd.pair (Kd.int .i64) (Kd.pair (Kd.int .i64) (Kd.pair (Kd.int .i64) (Kd.slice 3 (Kd.int .i64)))))) (I := fun y => (Lit.int .i64 y.1).wf = true ∧ (Lit.int .i64 y.2.1).wf = true ∧ (Lit.int .i64 y.2.2.1).wf = true ∧ (y.2.2.2.length ≤ maxLen ∧ ∀ z ∈ y.2.2.2, (Lit.int .i64 z).wf = true)) (opens_struct j0 Tryd.underlying33 cells33) _ (fun x => ⟨x.1, x.2.1, x.2.2.1, x.2.2.2⟩) (fun _ => rfl)
theorem opens22 : Opens Tryd.prog (Kd.slice 33 QT.k33) 22 (fun ys => ys.length ≤ maxLen ∧ ∀ y ∈ ys, inv33 y) := opens_slice opens33 Tryd.underlying22 (by kernel_rfl)
structure S24 where
  f0 : List QT.S33
def k24 : Kd S24 := Kd.iso (Kd.slice 33 QT.k33) (fun x : S24 => x.f0)
theorem k24_open {w : World} {x : S24} {cs : List Value} (h : k24.K w x cs) : ∃ A0 c0, cs = [.slice A0 x.f0.length c0] ∧ x.f0.length ≤ c0 ∧ QT.k33.C w A0 x.f0.length x.f0 := by
  obtain ⟨A0, c0, rfl, l0, g0⟩ := h
  exact ⟨A0, c0, rfl, l0, g0⟩
def inv24 (y : S24) : Prop := (y.f0.length ≤ maxLen ∧ ∀ z ∈ y.f0, inv33 z)
theorem cells24 : Tryd.prog.cellsOf 24 = (Kd.slice 33 QT.k33).sz := by kernel_rfl
theorem opens24 : Opens Tryd.prog k24 24 inv24 := by
  have j0 : OpensAt Tryd.prog (Kd.slice 33 QT.k33) [{ name := "Nodes", type := 22, offset := 0, embedded := false, tag := "", pkgPath := "", byteOffset := 0 }] 0 _ := at_last opens22 rfl
  exact opens_iso (d := (Kd.slice 33 QT.k33)) (I := fun y => (y.length ≤ maxLen ∧ ∀ z ∈ y, inv33 z)) (opens_struct j0 Tryd.underlying24 cells24) _ (fun x => ⟨x⟩) (fun _ => rfl)
noncomputable def laidL {H : Type} : List (String × DataW H) := [("math/bits.deBruijn32tab", Rows.laid_math_bits_deBruijn32tab), ("math/bits.deBruijn64tab", Rows.laid_math_bits_deBruijn64tab), ("internal/strconv.uint64pow10", Rows.laid_internal_strconv_uint64pow10), ("errors.errorType", Rows.laid_errors_errorType)]
theorem et : Tryd.prog.globalNamed "errors.errorType" = some 0 := by kernel_rfl
theorem rt : (Tryd.prog.cutTypes.find? (·.1 == "internal/reflectlite.rtype")).map (·.2) = some 127 := by kernel_rfl
theorem oneRow : ((List.range 186).filter fun t => Tryd.prog.rowNamed t [101, 114, 114, 111, 114]) = [27] := by kernel_rfl
theorem tsize : Tryd.prog.types.size = 186 := by kernel_rfl
theorem handle_of_laid {W : World} (h : laidMetH Tryd.prog laidL W) : QT.GL_ W := by
  have h' : laidMet Tryd.prog [("math/bits.deBruijn32tab", Rows.laid_math_bits_deBruijn32tab), ("math/bits.deBruijn64tab", Rows.laid_math_bits_deBruijn64tab), ("internal/strconv.uint64pow10", Rows.laid_internal_strconv_uint64pow10)] W ∧ handlesMet Tryd.prog [("errors.errorType", Rows.laid_errors_errorType)] W := h
  obtain ⟨name, u, ty, e1, e2, e3, e4, e5⟩ := h'.2 _ (List.mem_singleton.2 rfl)
  have en : name = [101, 114, 114, 111, 114] := (Option.some.inj e1).symm
  subst en
  obtain rfl := Option.some.inj (rt.symm.trans e2)
  have hm : ty ∈ (List.range 186).filter fun t => Tryd.prog.rowNamed t [101, 114, 114, 111, 114] := List.mem_filter.2 ⟨List.mem_range.2 (by rw [← tsize]; exact e3), e4⟩
  rw [oneRow] at hm
  obtain rfl := List.mem_singleton.1 hm
  have hh : typeHandle Tryd.prog 27 = .pointer (some ⟨4, 27, none⟩) := by kernel_rfl
  rw [hh] at e5
  simpa [QT.GL_] using World.var?_cell et e5 0
noncomputable def laidWorld (os : Os) : World := World.doorLaid Tryd.prog 400 os
theorem laidWorld_met (os : Os) (args : Array Value) : laidMetH Tryd.prog laidL ((laidWorld os).forCall (fun _ _ => 0) ⟨#[], args, []⟩).memory :=
  laidMetH_of_parts3 (fuel := 8) (laidMet_of_run' 8 (by kernel_rfl) (by kernel_rfl)) (by kernel_rfl) (by kernel_rfl)
theorem walk (A0_0 : Option Addr) (c0_0 : Nat) (s0 : S24) (a1 : Int) (w : World) (hG : QT.GL_ w) (hr0_0 : Kd.C QT.k33 w A0_0 s0.f0.length s0.f0) (hc0_0 : s0.f0.length ≤ c0_0) (I0 : inv24 s0) (I1 : (Lit.int .i64 a1).wf = true) :
    Calls Tryd.prog 4 #[.agg #[.slice A0_0 s0.f0.length c0_0], .int .i64 a1] w fun e w' => e = .returned (.bool true) ∧ Below w.heap.size w w' := by
  obtain ⟨k, hk⟩ := Plain.TreeLooks s0.f0 a1
  exact QT.cavillaw13_TreeLooks.calls k A0_0 c0_0 s0.f0 a1 true w hG hr0_0 hc0_0 hk
set_option maxRecDepth 100000 in
theorem lifted (os : Os) (started : os.Started) (H : Type) (enc : TypeId × Value → H) :
    ReturnsInHanded {} Tryd.checked os 4 .any (fun w args => (Rows.treeLooksSpec.pre enc Tryd.prog Tryd.f4 [] false w args ∧ laidMetH Tryd.prog laidL w) ∧ sizedMet enc Tryd.prog Tryd.f4 (OpenSpec.ofChange Rows.treeLooksSpec) false w args) (Rows.treeLooksSpec.post enc Tryd.prog Tryd.f4 false true false false) := by
  refine returnsInHanded_of_change_and (C := Tryd.checked) (X := fun w _ => laidMetH Tryd.prog laidL w) (fun _ _ _ hh h => h.of_heap hh) own started (by kernel_rfl) Tryd.func4
    (ChangeSpec.witness_shaped (enc := enc) (C := Tryd.checked) (os := os) (X := fun w _ => laidMetH Tryd.prog laidL w) false (laidWorld os) #[.agg #[.slice none 0 0], .int .i64 0] 8 rfl (World.shaped_of_RefB (by kernel_rfl) (by kernel_rfl)) (by kernel_rfl) (by kernel_rfl) (by kernel_rfl) (laidWorld_met os _)) ?_
  intro W base args ds gs before hval0 hW hcnd hsz0 hL _
  have hval : ∀ (j : Nat) t v, Tryd.f4.params[j]? = some t → args[j]? = some v → Value.okWide Tryd.prog W .any base t v := hval0
  have hW' := hW
  obtain ⟨p, q, hA0, hV, rfl, hfz, hnd⟩ := hW
  have hA : DataW.TrodAll enc Tryd.prog W 0 (fun _ => true) true Tryd.f4.params.toList args.toList ds p := hA0
  rw [Tryd.params4] at hA hval
  obtain ⟨v0, vs0, d0, ds0, p0, q0, hargs, rfl, rfl, h0, r0⟩ := trodAll_cons hA
  obtain ⟨v1, vs1, d1, ds1, p1, q1, rfl, rfl, rfl, h1, r1⟩ := trodAll_cons r0
  obtain ⟨rfl, rfl, rfl⟩ := trodAll_nil r1
  obtain rfl : args = #[v0, v1] := by cases args; simp_all
  obtain ⟨rfl, rfl⟩ := trodVars_none hV
  have k0 := h0
  have lt0 : ∀ x ∈ p0, x.block < W.heap.size := by obtain ⟨m, hm⟩ := k0; exact DataW.trod_lt m _ _ _ hm
  obtain ⟨cs0, s0, rfl, hk0, I0⟩ := arg_struct opens24 h0 (okWide_struct Tryd.underlying24 (hval 0 24 v0 rfl rfl))
  obtain ⟨A0_0, c0_0, hcs0, hc0_0, hr0_0⟩ := k24_open hk0
  obtain rfl : cs0 = #[.slice A0_0 s0.f0.length c0_0] := by rw [← Array.toArray_toList (xs := cs0), hcs0]
  obtain ⟨a1, rfl, rfl, rfl, I1⟩ := open_int Tryd.underlying3 (hval 1 3 v1 rfl rfl) h1
  clear hA0 hval0 hsz0
  refine (walk A0_0 c0_0 s0 a1 W (handle_of_laid hL) hr0_0 hc0_0 I0 I1).mono fun e W' ⟨he, bel⟩ => ?_
  subst he
  exact ⟨_, rfl, _, _, _, [], _, [], hW', trodAll_mk1 (shut_bool Tryd.underlying4 _), (trodAll_cons_mk (Below.trod laidOut (by kernel_rfl) (of_decide_eq_true (by kernel_rfl)) k0 bel lt0) (trodAll_cons_mk (shut_int Tryd.underlying3 I1) trodAll_mk0)), rfl, bel.frame _, fun h => by cases h⟩
theorem over : Rows.treeLooksRow.holds Tryd.pinned (OpenSpec.ofChange Rows.treeLooksSpec) :=
  OpenClaim.holds_of_wide 4 Tryd.f4 rfl rfl rfl rfl rfl rfl rfl ⟨rfl, rfl, rfl, rfl, rfl⟩ rfl rfl rfl rfl rfl (by kernel_rfl) Tryd.func4 (by kernel_rfl)
    (of_decide_eq_true (by kernel_rfl)) (by unfold Func.isWrapper; first | (rw [if_pos (by decide +kernel)]; kernel_rfl) | (rw [if_neg (by decide +kernel)]; exact ⟨rfl, rfl⟩))
    (fun os started H enc _ => lifted os started H enc)
theorem proved : Rows.TreeLooksCardSaid :=
  Claim7.holds_tied_plain_at .later [] [.data, .data, .data, .handle] true (true, "51722cd6523613e3e657431a994d93c6fac083b71d439e7272bc160adb16c375") true
    over (fun _ h => by cases h) (by kernel_rfl) (fun _ h => by cases h) treeLooks_row_tie rfl ⟨rfl, rfl⟩ (by kernel_rfl) rfl
    (fun f fn hf hfn => by
      obtain rfl : f = 4 := Option.some.inj ((show Tryd.prog.funcNamed "cavil/cavillaw13.TreeLooks" = some 4 by kernel_rfl).symm.trans hf) |>.symm
      obtain rfl : fn = Tryd.f4 := (Option.some.inj (Tryd.func4.symm.trans hfn)).symm
      exact ⟨by kernel_rfl, fun j t ht => by
        rw [Tryd.params4] at ht
        have hm : t ∈ [24, 3] := by simpa using Array.mem_of_getElem? ht
        have hall : ([24, 3].all fun u => !Tryd.prog.wantsStandIn u) = true := by kernel_rfl
        exact (show Tryd.prog.wantsStandIn t = false by simpa using List.all_eq_true.1 hall t hm)⟩)
    (by kernel_rfl)
#print axioms proved
end Go.Proofs.YtnpgadfoohjlnaaDoor.treeLooks
namespace Go.Proofs.YtnpgadfoohjlnaaDoor
/-- The row, under a short name, for the claim. -/
theorem treeLooks_holds : Rows.TreeLooksCardSaid := treeLooks.proved
end Go.Proofs.YtnpgadfoohjlnaaDoor
