/- The law cavillaw33.WhyTexts returns true for every input of its types, and leaves its arguments as they were: no condition but the laid package variables, which the card ties to the text. -/
import Derived.Test.YtnpgadfoohjlnabDoorRows
import Derived.Test.YtnpgadfoohjlnabDoorKH5
import Derived.Test.YtnpgadfoohjlnabDoorY
import Derived.Test.YtnpgadfoohjlnabDoorCards
import Derived.Test.YtnpgadfoohjlnabDoorTie
import Derived.WalkKit
import Derived.ProofKit
import Derived.OpenShut
import Derived.ShutString
import Derived.ChangeOld
import Derived.Below
import Derived.SizedLaws
import Derived.SevenTiedAt
import Derived.LaidLaws
import Derived.LaidHandle
import Derived.LaidMore
import Derived.JoinedOf
import Derived.ChangeVars
import Derived.Handed
import Derived.Stop.LaidErr
import Derived.Lib.LaidTab
namespace Go.Proofs.YtnpgadfoohjlnabDoor.whyTexts
open Go.ChangeShapes Go.WideShapes Go.ChangeAt Go.RowKit
open Go.ChangeMaps (open_string shut_string)
set_option linter.unusedVariables false
open Go.Proofs.YtnpgadfoohjlnabDoor.Opn Go.Proofs.YtnpgadfoohjlnabDoorW.PrintWords Go.Proofs.YtnpgadfoohjlnabDoor
theorem own : ownKnob Tryd.prog.godebug = none := by kernel_rfl
theorem laidOut : laidOutB Tryd.prog = true := by kernel_rfl
theorem opens9 : Opens Tryd.prog Kd.string 9 (fun y => y.size ≤ maxLen) := opens_string Tryd.underlying9 (by kernel_rfl)
theorem opens3 : Opens Tryd.prog (Kd.int .i64) 3 (fun y => (Lit.int .i64 y).wf = true) := opens_int .i64 Tryd.underlying3 (by kernel_rfl)
structure S50 where
  f0 : Int
  f1 : Int
def k50 : Kd S50 := Kd.iso (Kd.pair (Kd.int .i64) (Kd.int .i64)) (fun x : S50 => (x.f0, x.f1))
theorem k50_open {w : World} {x : S50} {cs : List Value} (h : k50.K w x cs) : cs = [.int .i64 x.f0, .int .i64 x.f1] := by
  obtain ⟨_, _, rfl, rfl, rfl⟩ := h
  exact rfl
def inv50 (y : S50) : Prop := (Lit.int .i64 y.f0).wf = true ∧ (Lit.int .i64 y.f1).wf = true
theorem cells50 : Tryd.prog.cellsOf 50 = (Kd.pair (Kd.int .i64) (Kd.int .i64)).sz := by kernel_rfl
theorem opens50 : Opens Tryd.prog k50 50 inv50 := by
  have j1 : OpensAt Tryd.prog (Kd.int .i64) [{ name := "To", type := 3, offset := 1, embedded := false, tag := "", pkgPath := "", byteOffset := 8 }] 1 _ := at_last opens3 rfl
  have j0 : OpensAt Tryd.prog (Kd.pair (Kd.int .i64) (Kd.int .i64)) [{ name := "From", type := 3, offset := 0, embedded := false, tag := "", pkgPath := "", byteOffset := 0 }, { name := "To", type := 3, offset := 1, embedded := false, tag := "", pkgPath := "", byteOffset := 8 }] 0 _ := at_cons opens3 rfl j1
  exact opens_iso (d := (Kd.pair (Kd.int .i64) (Kd.int .i64))) (I := fun y => (Lit.int .i64 y.1).wf = true ∧ (Lit.int .i64 y.2).wf = true) (opens_struct j0 Tryd.underlying50 cells50) _ (fun x => ⟨x.1, x.2⟩) (fun _ => rfl)
theorem opens28 : Opens Tryd.prog (Kd.slice 3 (Kd.int .i64)) 28 (fun ys => ys.length ≤ maxLen ∧ ∀ y ∈ ys, (Lit.int .i64 y).wf = true) := opens_slice opens3 Tryd.underlying28 (by kernel_rfl)
structure S52 where
  f0 : ByteArray
  f1 : ByteArray
  f2 : S50
  f3 : Int
  f4 : ByteArray
  f5 : (List Int)
  f6 : Int
def k52 : Kd S52 := Kd.iso (Kd.pair Kd.string (Kd.pair Kd.string (Kd.pair k50 (Kd.pair (Kd.int .i64) (Kd.pair Kd.string (Kd.pair (Kd.slice 3 (Kd.int .i64)) (Kd.int .i64))))))) (fun x : S52 => (x.f0, x.f1, x.f2, x.f3, x.f4, x.f5, x.f6))
theorem k52_open {w : World} {x : S52} {cs : List Value} (h : k52.K w x cs) : ∃ A6 c6, cs = [.string x.f0, .string x.f1, .int .i64 x.f2.f0, .int .i64 x.f2.f1, .int .i64 x.f3, .string x.f4, .slice A6 x.f5.length c6, .int .i64 x.f6] ∧ x.f5.length ≤ c6 ∧ (Kd.int .i64).C w A6 x.f5.length x.f5 := by
  obtain ⟨_, _, rfl, rfl, ⟨_, _, rfl, rfl, ⟨_, _, rfl, ⟨_, _, rfl, rfl, rfl⟩, ⟨_, _, rfl, rfl, ⟨_, _, rfl, rfl, ⟨_, _, rfl, ⟨A6, c6, rfl, l6, g6⟩, rfl⟩⟩⟩⟩⟩⟩ := h
  exact ⟨A6, c6, rfl, l6, g6⟩
def inv52 (y : S52) : Prop := y.f0.size ≤ maxLen ∧ y.f1.size ≤ maxLen ∧ inv50 y.f2 ∧ (Lit.int .i64 y.f3).wf = true ∧ y.f4.size ≤ maxLen ∧ (y.f5.length ≤ maxLen ∧ ∀ z ∈ y.f5, (Lit.int .i64 z).wf = true) ∧ (Lit.int .i64 y.f6).wf = true
theorem cells52 : Tryd.prog.cellsOf 52 = (Kd.pair Kd.string (Kd.pair Kd.string (Kd.pair k50 (Kd.pair (Kd.int .i64) (Kd.pair Kd.string (Kd.pair (Kd.slice 3 (Kd.int .i64)) (Kd.int .i64))))))).sz := by kernel_rfl
theorem opens52 : Opens Tryd.prog k52 52 inv52 := by
  have j6 : OpensAt Tryd.prog (Kd.int .i64) [{ name := "Node", type := 3, offset := 7, embedded := false, tag := "", pkgPath := "", byteOffset := 96 }] 7 _ := at_last opens3 rfl
  have j5 : OpensAt Tryd.prog (Kd.pair (Kd.slice 3 (Kd.int .i64)) (Kd.int .i64)) [{ name := "Core", type := 28, offset := 6, embedded := false, tag := "", pkgPath := "", byteOffset := 72 }, { name := "Node", type := 3, offset := 7, embedded := false, tag := "", pkgPath := "", byteOffset := 96 }] 6 _ := at_cons opens28 rfl j6
  have j4 : OpensAt Tryd.prog (Kd.pair Kd.string (Kd.pair (Kd.slice 3 (Kd.int .i64)) (Kd.int .i64))) [{ name := "Name", type := 9, offset := 5, embedded := false, tag := "", pkgPath := "", byteOffset := 56 }, { name := "Core", type := 28, offset := 6, embedded := false, tag := "", pkgPath := "", byteOffset := 72 }, { name := "Node", type := 3, offset := 7, embedded := false, tag := "", pkgPath := "", byteOffset := 96 }] 5 _ := at_cons opens9 rfl j5
  have j3 : OpensAt Tryd.prog (Kd.pair (Kd.int .i64) (Kd.pair Kd.string (Kd.pair (Kd.slice 3 (Kd.int .i64)) (Kd.int .i64)))) [{ name := "Code", type := 3, offset := 4, embedded := false, tag := "", pkgPath := "", byteOffset := 48 }, { name := "Name", type := 9, offset := 5, embedded := false, tag := "", pkgPath := "", byteOffset := 56 }, { name := "Core", type := 28, offset := 6, embedded := false, tag := "", pkgPath := "", byteOffset := 72 }, { name := "Node", type := 3, offset := 7, embedded := false, tag := "", pkgPath := "", byteOffset := 96 }] 4 _ := at_cons opens3 rfl j4
  have j2 : OpensAt Tryd.prog (Kd.pair k50 (Kd.pair (Kd.int .i64) (Kd.pair Kd.string (Kd.pair (Kd.slice 3 (Kd.int .i64)) (Kd.int .i64))))) [{ name := "Span", type := 50, offset := 2, embedded := false, tag := "", pkgPath := "", byteOffset := 32 }, { name := "Code", type := 3, offset := 4, embedded := false, tag := "", pkgPath := "", byteOffset := 48 }, { name := "Name", type := 9, offset := 5, embedded := false, tag := "", pkgPath := "", byteOffset := 56 }, { name := "Core", type := 28, offset := 6, embedded := false, tag := "", pkgPath := "", byteOffset := 72 }, { name := "Node", type := 3, offset := 7, embedded := false, tag := "", pkgPath := "", byteOffset := 96 }] 2 _ := at_cons opens50 rfl j3
  have j1 : OpensAt Tryd.prog (Kd.pair Kd.string (Kd.pair k50 (Kd.pair (Kd.int .i64) (Kd.pair Kd.string (Kd.pair (Kd.slice 3 (Kd.int .i64)) (Kd.int .i64)))))) [{ name := "File", type := 9, offset := 1, embedded := false, tag := "", pkgPath := "", byteOffset := 16 }, { name := "Span", type := 50, offset := 2, embedded := false, tag := "", pkgPath := "", byteOffset := 32 }, { name := "Code", type := 3, offset := 4, embedded := false, tag := "", pkgPath := "", byteOffset := 48 }, { name := "Name", type := 9, offset := 5, embedded := false, tag := "", pkgPath := "", byteOffset := 56 }, { name := "Core", type := 28, offset := 6, embedded := false, tag := "", pkgPath := "", byteOffset := 72 }, { name := "Node", type := 3, offset := 7, embedded := false, tag := "", pkgPath := "", byteOffset := 96 }] 1 _ := at_cons opens9 rfl j2
  have j0 : OpensAt Tryd.prog (Kd.pair Kd.string (Kd.pair Kd.string (Kd.pair k50 (Kd.pair (Kd.int .i64) (Kd.pair Kd.string (Kd.pair (Kd.slice 3 (Kd.int .i64)) (Kd.int .i64))))))) [{ name := "Pkg", type := 9, offset := 0, embedded := false, tag := "", pkgPath := "", byteOffset := 0 }, { name := "File", type := 9, offset := 1, embedded := false, tag := "", pkgPath := "", byteOffset := 16 }, { name := "Span", type := 50, offset := 2, embedded := false, tag := "", pkgPath := "", byteOffset := 32 }, { name := "Code", type := 3, offset := 4, embedded := false, tag := "", pkgPath := "", byteOffset := 48 }, { name := "Name", type := 9, offset := 5, embedded := false, tag := "", pkgPath := "", byteOffset := 56 }, { name := "Core", type := 28, offset := 6, embedded := false, tag := "", pkgPath := "", byteOffset := 72 }, { name := "Node", type := 3, offset := 7, embedded := false, tag := "", pkgPath := "", byteOffset := 96 }] 0 _ := at_cons opens9 rfl j1
  exact opens_iso (d := (Kd.pair Kd.string (Kd.pair Kd.string (Kd.pair k50 (Kd.pair (Kd.int .i64) (Kd.pair Kd.string (Kd.pair (Kd.slice 3 (Kd.int .i64)) (Kd.int .i64)))))))) (I := fun y => y.1.size ≤ maxLen ∧ y.2.1.size ≤ maxLen ∧ inv50 y.2.2.1 ∧ (Lit.int .i64 y.2.2.2.1).wf = true ∧ y.2.2.2.2.1.size ≤ maxLen ∧ (y.2.2.2.2.2.1.length ≤ maxLen ∧ ∀ z ∈ y.2.2.2.2.2.1, (Lit.int .i64 z).wf = true) ∧ (Lit.int .i64 y.2.2.2.2.2.2).wf = true) (opens_struct j0 Tryd.underlying52 cells52) _ (fun x => ⟨x.1, x.2.1, x.2.2.1, x.2.2.2.1, x.2.2.2.2.1, x.2.2.2.2.2.1, x.2.2.2.2.2.2⟩) (fun _ => rfl)
noncomputable def laidL {H : Type} : List (String × DataW H) := [("math/bits.deBruijn32tab", Rows.laid_math_bits_deBruijn32tab), ("math/bits.deBruijn64tab", Rows.laid_math_bits_deBruijn64tab), ("internal/strconv.uint64pow10", Rows.laid_internal_strconv_uint64pow10)]
noncomputable def laidWorld (os : Os) : World := World.doorLaid Tryd.prog 400 os
theorem laidWorld_met (os : Os) (args : Array Value) : laidMetH Tryd.prog laidL ((laidWorld os).forCall (fun _ _ => 0) ⟨#[], args, []⟩).memory :=
  laidMetH_of_parts3 (fuel := 8) (laidMet_of_run' 8 (by kernel_rfl) (by kernel_rfl)) (by kernel_rfl) (by kernel_rfl)
theorem handle_of_laid {W : World} (h : laidMetH Tryd.prog laidL W) : QK.GL_ W := by
  have h' : laidMet Tryd.prog laidL W := h
  have e : (Rows.laid_internal_strconv_uint64pow10 : DataW Unit) = Lib.tabData .u64 Lib.pow10Tab := by kernel_rfl
  have h2 : laidMet Tryd.prog [("internal/strconv.uint64pow10", Rows.laid_internal_strconv_uint64pow10)] W := laidMet.tail (laidMet.tail (h'))
  rw [e] at h2
  exact Lib.tabIs_of_head (g := 1) (t := 161) (e := 91) (n := 20) (by kernel_rfl) (by kernel_rfl) Tryd.underlying161 Tryd.underlying91 (by kernel_rfl) (by kernel_rfl) h2
theorem walk (A0_6 : Option Addr) (c0_6 : Nat) (s0 : S52) (a1 : Int) (w : World) (hG : QK.GL_ w) (hr0_6 : Kd.C (Kd.int .i64) w A0_6 s0.f5.length s0.f5) (hc0_6 : s0.f5.length ≤ c0_6) (I0 : inv52 s0) (I1 : (Lit.int .i64 a1).wf = true) :
    Calls Tryd.prog 5 #[.agg #[.string s0.f0, .string s0.f1, .int .i64 s0.f2.f0, .int .i64 s0.f2.f1, .int .i64 s0.f3, .string s0.f4, .slice A0_6 s0.f5.length c0_6, .int .i64 s0.f6], .int .i64 a1] w fun e w' => e = .returned (.bool true) ∧ Below w.heap.size w w' := by
  have hc : -9223372036854775808 ≤ s0.f3 ∧ s0.f3 ≤ 9223372036854775807 := by simpa [Lit.wf, IntKind.min, IntKind.max, IntKind.signed, IntKind.bits] using I0.2.2.2.1
  have ha : -9223372036854775808 ≤ a1 ∧ a1 ≤ 9223372036854775807 := by simpa [Lit.wf, IntKind.min, IntKind.max, IntKind.signed, IntKind.bits] using I1
  obtain ⟨k, hk⟩ := Plain.WhyTexts s0.f0 s0.f1 s0.f2.f0 s0.f2.f1 s0.f3 s0.f4 s0.f5 s0.f6 a1 hc.1 hc.2 ha.1 ha.2
  exact QK.cavillaw33_WhyTexts.calls k s0.f0 s0.f1 s0.f2.f0 s0.f2.f1 s0.f3 s0.f4 A0_6 c0_6 s0.f5 s0.f6 a1 true w hG hr0_6 hc0_6 hk rfl
set_option maxRecDepth 100000 in
theorem lifted (os : Os) (started : os.Started) (H : Type) (enc : TypeId × Value → H) :
    ReturnsInHanded {} Tryd.checked os 5 .any (fun w args => (Rows.whyTextsSpec.pre enc Tryd.prog Tryd.f5 [] false w args ∧ laidMetH Tryd.prog laidL w) ∧ sizedMet enc Tryd.prog Tryd.f5 (OpenSpec.ofChange Rows.whyTextsSpec) false w args) (Rows.whyTextsSpec.post enc Tryd.prog Tryd.f5 false true false false) := by
  refine returnsInHanded_of_change_and (C := Tryd.checked) (X := fun w _ => laidMetH Tryd.prog laidL w) (fun _ _ _ hh h => h.of_heap hh) own started (by kernel_rfl) Tryd.func5
    (ChangeSpec.witness_shaped (enc := enc) (C := Tryd.checked) (os := os) (X := fun w _ => laidMetH Tryd.prog laidL w) false (laidWorld os) #[.agg #[.string ByteArray.empty, .string ByteArray.empty, .int .i64 0, .int .i64 0, .int .i64 0, .string ByteArray.empty, .slice none 0 0, .int .i64 0], .int .i64 0] 8 rfl (World.shaped_of_RefB (by kernel_rfl) (by kernel_rfl)) (by kernel_rfl) (by kernel_rfl) (by kernel_rfl) (laidWorld_met os _)) ?_
  intro W base args ds gs before hval0 hW hcnd hsz0 hL _
  have hval : ∀ (j : Nat) t v, Tryd.f5.params[j]? = some t → args[j]? = some v → Value.okWide Tryd.prog W .any base t v := hval0
  have hW' := hW
  obtain ⟨p, q, hA0, hV, rfl, hfz, hnd⟩ := hW
  have hA : DataW.TrodAll enc Tryd.prog W 0 (fun _ => true) true Tryd.f5.params.toList args.toList ds p := hA0
  rw [Tryd.params5] at hA hval
  obtain ⟨v0, vs0, d0, ds0, p0, q0, hargs, rfl, rfl, h0, r0⟩ := trodAll_cons hA
  obtain ⟨v1, vs1, d1, ds1, p1, q1, rfl, rfl, rfl, h1, r1⟩ := trodAll_cons r0
  obtain ⟨rfl, rfl, rfl⟩ := trodAll_nil r1
  obtain rfl : args = #[v0, v1] := by cases args; simp_all
  obtain ⟨rfl, rfl⟩ := trodVars_none hV
  have k0 := h0
  have lt0 : ∀ x ∈ p0, x.block < W.heap.size := by obtain ⟨m, hm⟩ := k0; exact DataW.trod_lt m _ _ _ hm
  obtain ⟨cs0, s0, rfl, hk0, I0⟩ := arg_struct opens52 h0 (okWide_struct Tryd.underlying52 (hval 0 52 v0 rfl rfl))
  obtain ⟨A0_6, c0_6, hcs0, hc0_6, hr0_6⟩ := k52_open hk0
  obtain rfl : cs0 = #[.string s0.f0, .string s0.f1, .int .i64 s0.f2.f0, .int .i64 s0.f2.f1, .int .i64 s0.f3, .string s0.f4, .slice A0_6 s0.f5.length c0_6, .int .i64 s0.f6] := by rw [← Array.toArray_toList (xs := cs0), hcs0]
  obtain ⟨a1, rfl, rfl, rfl, I1⟩ := open_int Tryd.underlying3 (hval 1 3 v1 rfl rfl) h1
  clear hA0 hval0 hsz0
  refine (walk A0_6 c0_6 s0 a1 W (handle_of_laid hL) hr0_6 hc0_6 I0 I1).mono fun e W' ⟨he, bel⟩ => ?_
  subst he
  exact ⟨_, rfl, _, _, _, [], _, [], hW', trodAll_mk1 (shut_bool Tryd.underlying4 _), (trodAll_cons_mk (Below.trod laidOut (by kernel_rfl) (of_decide_eq_true (by kernel_rfl)) k0 bel lt0) (trodAll_cons_mk (shut_int Tryd.underlying3 I1) trodAll_mk0)), rfl, bel.frame _, fun h => by cases h⟩
theorem over : Rows.whyTextsRow.holds Tryd.pinned (OpenSpec.ofChange Rows.whyTextsSpec) :=
  OpenClaim.holds_of_wide 5 Tryd.f5 rfl rfl rfl rfl rfl rfl rfl ⟨rfl, rfl, rfl, rfl, rfl⟩ rfl rfl rfl rfl rfl (by kernel_rfl) Tryd.func5 (by kernel_rfl)
    (of_decide_eq_true (by kernel_rfl)) (by unfold Func.isWrapper; first | (rw [if_pos (by decide +kernel)]; kernel_rfl) | (rw [if_neg (by decide +kernel)]; exact ⟨rfl, rfl⟩))
    (fun os started H enc _ => lifted os started H enc)
theorem proved : Rows.WhyTextsCardSaid :=
  Claim7.holds_tied_plain_at .later [] [.data, .data, .data] true (true, "b8463492d09ccbdcbf49988d94c1d4a233a4ae3cd95ae2b3cef5ba55e3b5bc7c") true
    over (fun _ h => by cases h) (by kernel_rfl) (fun _ h => by cases h) whyTexts_row_tie rfl ⟨rfl, rfl⟩ (by kernel_rfl) rfl
    (fun f fn hf hfn => by
      obtain rfl : f = 5 := Option.some.inj ((show Tryd.prog.funcNamed "cavil/cavillaw33.WhyTexts" = some 5 by kernel_rfl).symm.trans hf) |>.symm
      obtain rfl : fn = Tryd.f5 := (Option.some.inj (Tryd.func5.symm.trans hfn)).symm
      exact ⟨by kernel_rfl, fun j t ht => by
        rw [Tryd.params5] at ht
        have hm : t ∈ [52, 3] := by simpa using Array.mem_of_getElem? ht
        have hall : ([52, 3].all fun u => !Tryd.prog.wantsStandIn u) = true := by kernel_rfl
        exact (show Tryd.prog.wantsStandIn t = false by simpa using List.all_eq_true.1 hall t hm)⟩)
    (by kernel_rfl)
#print axioms proved
end Go.Proofs.YtnpgadfoohjlnabDoor.whyTexts
namespace Go.Proofs.YtnpgadfoohjlnabDoor
/-- The row, under a short name, for the claim. -/
theorem whyTexts_holds : Rows.WhyTextsCardSaid := whyTexts.proved
end Go.Proofs.YtnpgadfoohjlnabDoor
