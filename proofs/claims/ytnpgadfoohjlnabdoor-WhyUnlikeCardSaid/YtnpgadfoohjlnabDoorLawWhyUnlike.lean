/- The law cavillaw33.WhyUnlike returns true for every input of its types, and leaves its arguments as they were: no condition but the laid package variables, which the card ties to the text. -/
import Derived.Test.YtnpgadfoohjlnabDoorRows
import Derived.Test.YtnpgadfoohjlnabDoorZH2
import Derived.Test.YtnpgadfoohjlnabDoorY
import Derived.Test.YtnpgadfoohjlnabDoorCards
import Derived.Test.YtnpgadfoohjlnabDoorTie
import Derived.WalkKit
import Derived.ProofKit
import Derived.OpenShut
import Derived.ShutString
import Derived.ChangeOld
import Derived.Below
import Derived.SizedLaws
import Derived.SevenTiedAt
import Derived.LaidLaws
import Derived.LaidHandle
import Derived.LaidMore
import Derived.JoinedOf
import Derived.ChangeVars
import Derived.Handed
import Derived.Stop.LaidErr
import Derived.Lib.LaidTab
namespace Go.Proofs.YtnpgadfoohjlnabDoor.whyUnlike
open Go.ChangeShapes Go.WideShapes Go.ChangeAt Go.RowKit
open Go.ChangeMaps (open_string shut_string)
set_option linter.unusedVariables false
open Go.Proofs.YtnpgadfoohjlnabDoor.Opn Go.Proofs.YtnpgadfoohjlnabDoorW.PrintWords Go.Proofs.YtnpgadfoohjlnabDoor
theorem own : ownKnob Tryd.prog.godebug = none := by kernel_rfl
theorem laidOut : laidOutB Tryd.prog = true := by kernel_rfl
/-- An array of elements of one cell each, as a struct of so many fields. -/
theorem opens_array {P : Program} {α : Type} {d : Kd α} {t e : TypeId} {n : Nat} {fs : List Field} {I : α → Prop} (h : OpensAt P d fs 0 I) (ht : P.underlying t = some (.array n e)) (hc : P.cellsOf t = d.sz) (he : P.cellsOf e = 1) (hn : fs.length = n) (hf : ((List.range n).all fun i => match fs[i]? with | some f => f.type == e && f.offset == i | none => false) = true) : Opens P d t I :=
  ⟨hc, fun H enc w base spare held fuel cs x hx => by
    obtain ⟨xs, m, _, _, hl, hxn, hr⟩ := DataW.trod_array ht hx
    have := h H enc w base spare held m cs (by rw [hl, hc]; omega) (fun f hfm => by
      obtain ⟨i, hi, rfl⟩ := List.mem_iff_getElem.1 hfm
      have h1 := List.all_eq_true.1 hf i (List.mem_range.2 (by omega))
      rw [List.getElem?_eq_getElem hi] at h1
      simp only [Bool.and_eq_true, beq_iff_eq] at h1
      have h2 := hr i (by omega)
      refine ⟨xs[i]'(by omega), ?_⟩
      rw [h1.1, h1.2, he, ← List.getElem?_eq_getElem, ← h2, he, Nat.mul_one])
    simpa using this⟩
theorem okWide_array {P : Program} {w : World} {r : Reach} {base : Nat} {t e : TypeId} {n : Nat} {v : Value} (ht : P.underlying t = some (.array n e)) (h : Value.okWide P w r base t v) : ∃ cs, v = .agg cs ∧ cs.size = P.cellsOf t := by
  simp only [Value.okWide, ht] at h
  obtain ⟨cs, h1, h2, _⟩ := h
  exact ⟨cs, h1, h2⟩
theorem opens5 : Opens Tryd.prog (Kd.int .u8) 5 (fun y => (Lit.int .u8 y).wf = true) := opens_int .u8 Tryd.underlying5 (by kernel_rfl)
theorem opens57 : Opens Tryd.prog (Kd.int .i16) 57 (fun y => (Lit.int .i16 y).wf = true) := opens_int .i16 Tryd.underlying57 (by kernel_rfl)
structure S58 where
  f0 : Int
  f1 : Int
def k58 : Kd S58 := Kd.iso (Kd.pair (Kd.int .i16) (Kd.int .i16)) (fun x : S58 => (x.f0, x.f1))
theorem k58_open {w : World} {x : S58} {cs : List Value} (h : k58.K w x cs) : cs = [.int .i16 x.f0, .int .i16 x.f1] := by
  obtain ⟨_, _, rfl, rfl, rfl⟩ := h
  rfl
def inv58 (y : S58) : Prop := (Lit.int .i16 y.f0).wf = true ∧ (Lit.int .i16 y.f1).wf = true
theorem cells58 : Tryd.prog.cellsOf 58 = (Kd.pair (Kd.int .i16) (Kd.int .i16)).sz := by kernel_rfl
theorem opens58 : Opens Tryd.prog k58 58 inv58 := by
  have j1 : OpensAt Tryd.prog (Kd.int .i16) [{ name := "", type := 57, offset := 1, embedded := false, tag := "", pkgPath := "", byteOffset := 0 }] 1 _ := at_last opens57 rfl
  have j0 : OpensAt Tryd.prog (Kd.pair (Kd.int .i16) (Kd.int .i16)) [{ name := "", type := 57, offset := 0, embedded := false, tag := "", pkgPath := "", byteOffset := 0 }, { name := "", type := 57, offset := 1, embedded := false, tag := "", pkgPath := "", byteOffset := 0 }] 0 _ := at_cons opens57 rfl j1
  exact opens_iso (d := (Kd.pair (Kd.int .i16) (Kd.int .i16))) (I := fun y => (Lit.int .i16 y.1).wf = true ∧ (Lit.int .i16 y.2).wf = true) (opens_array j0 Tryd.underlying58 cells58 (by kernel_rfl) rfl (by decide)) _ (fun x => ⟨x.1, x.2⟩) (fun _ => rfl)
noncomputable def laidL {H : Type} : List (String × DataW H) := [("math/bits.deBruijn32tab", Rows.laid_math_bits_deBruijn32tab), ("math/bits.deBruijn64tab", Rows.laid_math_bits_deBruijn64tab), ("internal/strconv.uint64pow10", Rows.laid_internal_strconv_uint64pow10)]
noncomputable def laidWorld (os : Os) : World := World.doorLaid Tryd.prog 400 os
theorem laidWorld_met (os : Os) (args : Array Value) : laidMetH Tryd.prog laidL ((laidWorld os).forCall (fun _ _ => 0) ⟨#[], args, []⟩).memory :=
  laidMetH_of_parts3 (fuel := 8) (laidMet_of_run' 8 (by kernel_rfl) (by kernel_rfl)) (by kernel_rfl) (by kernel_rfl)
theorem handle_of_laid {W : World} (h : laidMetH Tryd.prog laidL W) : QZ.GL_ W := by
  have h' : laidMet Tryd.prog laidL W := h
  have e : (Rows.laid_internal_strconv_uint64pow10 : DataW Unit) = Lib.tabData .u64 Lib.pow10Tab := by kernel_rfl
  have h2 : laidMet Tryd.prog [("internal/strconv.uint64pow10", Rows.laid_internal_strconv_uint64pow10)] W := laidMet.tail (laidMet.tail (h'))
  rw [e] at h2
  exact Lib.tabIs_of_head (g := 1) (t := 161) (e := 91) (n := 20) (by kernel_rfl) (by kernel_rfl) Tryd.underlying161 Tryd.underlying91 (by kernel_rfl) (by kernel_rfl) h2
theorem walk (a0 : Int) (a1 : Int)  (s2 : S58) (w : World) (hG : QZ.GL_ w) (I0 : (Lit.int .u8 a0).wf = true) (I1 : (Lit.int .u8 a1).wf = true)  (I2 : inv58 s2) :
    Calls Tryd.prog 6 #[.int .u8 a0, .int .u8 a1, .agg #[.int .i16 s2.f0, .int .i16 s2.f1]] w fun e w' => e = .returned (.bool true) ∧ Below w.heap.size w w' := by
  obtain ⟨k, hk⟩ := Plain.WhyUnlike a0 a1 s2.f0 s2.f1 (by simpa [Lit.wf, IntKind.min, IntKind.max, IntKind.signed, IntKind.bits] using I0) (by simpa [Lit.wf, IntKind.min, IntKind.max, IntKind.signed, IntKind.bits] using I1) (by simpa [Lit.wf, IntKind.min, IntKind.max, IntKind.signed, IntKind.bits] using I2.1) (by simpa [Lit.wf, IntKind.min, IntKind.max, IntKind.signed, IntKind.bits] using I2.2)
  exact QZ.cavillaw33_WhyUnlike.calls k a0 a1 s2.f0 s2.f1 true w hG  hk rfl
set_option maxRecDepth 100000 in
theorem lifted (os : Os) (started : os.Started) (H : Type) (enc : TypeId × Value → H) :
    ReturnsInHanded {} Tryd.checked os 6 .any (fun w args => (Rows.whyUnlikeSpec.pre enc Tryd.prog Tryd.f6 [] false w args ∧ laidMetH Tryd.prog laidL w) ∧ sizedMet enc Tryd.prog Tryd.f6 (OpenSpec.ofChange Rows.whyUnlikeSpec) false w args) (Rows.whyUnlikeSpec.post enc Tryd.prog Tryd.f6 false true false false) := by
  refine returnsInHanded_of_change_and (C := Tryd.checked) (X := fun w _ => laidMetH Tryd.prog laidL w) (fun _ _ _ hh h => h.of_heap hh) own started (by kernel_rfl) Tryd.func6
    (ChangeSpec.witness_shaped (enc := enc) (C := Tryd.checked) (os := os) (X := fun w _ => laidMetH Tryd.prog laidL w) false (laidWorld os) #[.int .u8 0, .int .u8 0, .agg #[.int .i16 0, .int .i16 0]] 8 rfl (World.shaped_of_RefB (by kernel_rfl) (by kernel_rfl)) (by kernel_rfl) (by kernel_rfl) (by kernel_rfl) (laidWorld_met os _)) ?_
  intro W base args ds gs before hval0 hW hcnd hsz0 hL _
  have hval : ∀ (j : Nat) t v, Tryd.f6.params[j]? = some t → args[j]? = some v → Value.okWide Tryd.prog W .any base t v := hval0
  have hW' := hW
  obtain ⟨p, q, hA0, hV, rfl, hfz, hnd⟩ := hW
  have hA : DataW.TrodAll enc Tryd.prog W 0 (fun _ => true) true Tryd.f6.params.toList args.toList ds p := hA0
  rw [Tryd.params6] at hA hval
  obtain ⟨v0, vs0, d0, ds0, p0, q0, hargs, rfl, rfl, h0, r0⟩ := trodAll_cons hA
  obtain ⟨v1, vs1, d1, ds1, p1, q1, rfl, rfl, rfl, h1, r1⟩ := trodAll_cons r0
  obtain ⟨v2, vs2, d2, ds2, p2, q2, rfl, rfl, rfl, h2, r2⟩ := trodAll_cons r1
  obtain ⟨rfl, rfl, rfl⟩ := trodAll_nil r2
  obtain rfl : args = #[v0, v1, v2] := by cases args; simp_all
  obtain ⟨rfl, rfl⟩ := trodVars_none hV
  obtain ⟨a0, rfl, rfl, rfl, I0⟩ := open_int Tryd.underlying5 (hval 0 5 v0 rfl rfl) h0
  obtain ⟨a1, rfl, rfl, rfl, I1⟩ := open_int Tryd.underlying5 (hval 1 5 v1 rfl rfl) h1
  have k2 := h2
  have lt2 : ∀ x ∈ p2, x.block < W.heap.size := by obtain ⟨m, hm⟩ := k2; exact DataW.trod_lt m _ _ _ hm
  obtain ⟨cs2, s2, rfl, hk2, I2⟩ := arg_struct opens58 h2 (okWide_array Tryd.underlying58 (hval 2 58 v2 rfl rfl))
  have hcs2 := k58_open hk2
  obtain rfl : cs2 = #[.int .i16 s2.f0, .int .i16 s2.f1] := by rw [← Array.toArray_toList (xs := cs2), hcs2]
  clear hA0 hval0 hsz0
  refine (walk a0 a1  s2 W (handle_of_laid hL) I0 I1  I2).mono fun e W' ⟨he, bel⟩ => ?_
  subst he
  exact ⟨_, rfl, _, _, _, [], _, [], hW', trodAll_mk1 (shut_bool Tryd.underlying4 _), (trodAll_cons_mk (shut_int Tryd.underlying5 I0) (trodAll_cons_mk (shut_int Tryd.underlying5 I1) (trodAll_cons_mk (Below.trod laidOut (by kernel_rfl) (of_decide_eq_true (by kernel_rfl)) k2 bel lt2) trodAll_mk0))), rfl, bel.frame _, fun h => by cases h⟩
theorem over : Rows.whyUnlikeRow.holds Tryd.pinned (OpenSpec.ofChange Rows.whyUnlikeSpec) :=
  OpenClaim.holds_of_wide 6 Tryd.f6 rfl rfl rfl rfl rfl rfl rfl ⟨rfl, rfl, rfl, rfl, rfl⟩ rfl rfl rfl rfl rfl (by kernel_rfl) Tryd.func6 (by kernel_rfl)
    (of_decide_eq_true (by kernel_rfl)) (by unfold Func.isWrapper; first | (rw [if_pos (by decide +kernel)]; kernel_rfl) | (rw [if_neg (by decide +kernel)]; exact ⟨rfl, rfl⟩))
    (fun os started H enc _ => lifted os started H enc)
theorem proved : Rows.WhyUnlikeCardSaid :=
  Claim7.holds_tied_plain_at .later [] [.data, .data, .data] true (true, "b8463492d09ccbdcbf49988d94c1d4a233a4ae3cd95ae2b3cef5ba55e3b5bc7c") true
    over (fun _ h => by cases h) (by kernel_rfl) (fun _ h => by cases h) whyUnlike_row_tie rfl ⟨rfl, rfl⟩ (by kernel_rfl) rfl
    (fun f fn hf hfn => by
      obtain rfl : f = 6 := Option.some.inj ((show Tryd.prog.funcNamed "cavil/cavillaw33.WhyUnlike" = some 6 by kernel_rfl).symm.trans hf) |>.symm
      obtain rfl : fn = Tryd.f6 := (Option.some.inj (Tryd.func6.symm.trans hfn)).symm
      exact ⟨by kernel_rfl, fun j t ht => by
        rw [Tryd.params6] at ht
        have hm : t ∈ [5, 5, 58] := by simpa using Array.mem_of_getElem? ht
        have hall : ([5, 5, 58].all fun u => !Tryd.prog.wantsStandIn u) = true := by kernel_rfl
        exact (show Tryd.prog.wantsStandIn t = false by simpa using List.all_eq_true.1 hall t hm)⟩)
    (by kernel_rfl)
#print axioms proved
end Go.Proofs.YtnpgadfoohjlnabDoor.whyUnlike
namespace Go.Proofs.YtnpgadfoohjlnabDoor
/-- The row, under a short name, for the claim. -/
theorem whyUnlike_holds : Rows.WhyUnlikeCardSaid := whyUnlike.proved
end Go.Proofs.YtnpgadfoohjlnabDoor
