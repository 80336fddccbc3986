/- How a typed argument's reading becomes a row of the print's kinds: every type of numbers, bools, strings, slices and structs. No condition beyond what each lemma says. -/
import Derived.Test.YtnpgadfoohjlnabDoorX
import Derived.Deep.Slices
import Derived.ChangeArms
import Derived.DataReads
import Derived.OpenShut
namespace Go.Proofs.YtnpgadfoohjlnabDoor.Opn
open Go.RowKit Go.Proofs.YtnpgadfoohjlnabDoorW.PrintWords Go.Proofs.YtnpgadfoohjlnabDoorW.PrintLast Go.Proofs.YtnpgadfoohjlnabDoorW.PrintMore
variable {P : Program} {α β : Type}
/-- Whatever reads as data of type t is of kind d, and I holds of it. -/
def Opens (P : Program) (d : Kd α) (t : TypeId) (I : α → Prop) : Prop :=
  P.cellsOf t = d.sz ∧ ∀ (H : Type) (enc : TypeId × Value → H) (w : World) (base : Nat) (spare : Nat → Bool) (held : Bool) (fuel : Nat) (cs : List Value) (x : DataW H × List MemPlace),
    DataW.trod enc P w base spare held fuel t cs = some x → ∃ y, I y ∧ d.K w y cs
theorem opens_int {t : TypeId} (k : IntKind) (ht : P.underlying t = some (.int k)) (hc : P.cellsOf t = 1) : Opens P (Kd.int k) t (fun y => (Lit.int k y).wf = true) :=
  ⟨hc, fun H enc w base spare held fuel cs x h => by
    obtain ⟨n, rfl, _, hw⟩ := DataW.trod_int ht h
    exact ⟨n, hw, rfl⟩⟩
theorem opens_bool {t : TypeId} (ht : P.underlying t = some .bool) (hc : P.cellsOf t = 1) : Opens P Kd.bool t (fun _ => True) :=
  ⟨hc, fun H enc w base spare held fuel cs x h => by
    obtain ⟨n, rfl, _⟩ := DataW.trod_bool ht h
    exact ⟨n, trivial, rfl⟩⟩
theorem opens_string {t : TypeId} (ht : P.underlying t = some .string) (hc : P.cellsOf t = 1) : Opens P Kd.string t (fun y => y.size ≤ maxLen) :=
  ⟨hc, fun H enc w base spare held fuel cs x h => by
    obtain ⟨n, rfl, _, hs⟩ := DataW.trod_string ht h
    exact ⟨n, hs, rfl⟩⟩
theorem opens_slice {d : Kd α} {t e : TypeId} {I : α → Prop} (he : Opens P d e I) (ht : P.underlying t = some (.slice e)) (hc : P.cellsOf t = 1) : Opens P (Kd.slice e d) t (fun ys => ys.length ≤ maxLen ∧ ∀ y ∈ ys, I y) :=
  ⟨hc, fun H enc w base spare held fuel cs x h => by
    rcases Go.Deep.open_slice ht h with ⟨rfl, _⟩ | ⟨a, len, cap, m, n, D, Pl, rfl, hb, hl, hm, hmm, _, hx⟩
    · exact ⟨[], ⟨by simp, by simp⟩, none, 0, rfl, Nat.le_refl _, rfl, Nat.zero_le _, fun h0 => absurd h0 (by simp)⟩
    · have hy : ∀ i : Fin len, ∃ y, I y ∧ ∃ cs', w.cells? base (a.add (i.val * P.cellsOf e)) (P.cellsOf e) = some cs' ∧ d.K w y cs' := fun i => by
        have him : i.val < m := by
          have := i.isLt
          rw [hmm]
          split <;> omega
        obtain ⟨cs', h1, h2⟩ := hx i.val him
        obtain ⟨y, hI, hK⟩ := he.2 H enc w base spare held n cs' _ h2
        exact ⟨y, hI, cs', h1, hK⟩
      let ys : List α := List.ofFn fun i => (hy i).choose
      have hlen : ys.length = len := by simp [ys]
      have hmx : len ≤ maxLen := Nat.le_trans hl hm
      refine ⟨ys, ⟨by rw [hlen]; exact hmx, fun y hy' => ?_⟩, some a, cap, by rw [hlen], by rw [hlen]; exact hl, rfl, by rw [hlen]; exact hmx, fun _ => ⟨a, rfl, fun j p hj => ?_⟩⟩
      · obtain ⟨i, rfl⟩ := List.mem_ofFn.1 hy'
        exact (hy i).choose_spec.1
      · have hj' : j < len := by
          rw [← hlen]
          exact (List.getElem?_eq_some_iff.1 hj).1
        have hp : (hy ⟨j, hj'⟩).choose = p := by
          have := List.getElem?_eq_some_iff.1 hj
          obtain ⟨h1, h2⟩ := this
          rw [← h2]
          simp [ys]
        obtain ⟨cs', h1, h2⟩ := (hy ⟨j, hj'⟩).choose_spec.2
        rw [hp] at h2
        obtain ⟨_, h4, h5⟩ := World.cells?_some h1
        refine ⟨cs', d.K_len h2, h2, fun i u hu => ?_⟩
        have hi : i < P.cellsOf e := by
          rw [← h4]
          exact (List.getElem?_eq_some_iff.1 hu).1
        have := h5 i hi
        rw [Go.Addr.add_add, he.1, hu] at this
        exact this⟩
/-- The fields from cell 'off' on. -/
def OpensAt (P : Program) (d : Kd α) (fs : List Field) (off : Nat) (I : α → Prop) : Prop :=
  ∀ (H : Type) (enc : TypeId × Value → H) (w : World) (base : Nat) (spare : Nat → Bool) (held : Bool) (fuel : Nat) (cs : List Value), cs.length = off + d.sz →
    (∀ f ∈ fs, ∃ x, DataW.trod enc P w base spare held fuel f.type ((cs.drop f.offset).take (P.cellsOf f.type)) = some x) → ∃ y, I y ∧ d.K w y (cs.drop off)
theorem at_last {d : Kd α} {f : Field} {off : Nat} {I : α → Prop} (h : Opens P d f.type I) (ho : f.offset = off) : OpensAt P d [f] off I := by
  intro H enc w base spare held fuel cs hl hf
  obtain ⟨x, hx⟩ := hf f (List.mem_singleton.2 rfl)
  rw [ho, List.take_of_length_le (by rw [List.length_drop, h.1]; omega)] at hx
  exact h.2 H enc w base spare held fuel _ x hx
theorem at_cons {a : Kd α} {b : Kd β} {f : Field} {fs : List Field} {off : Nat} {I : α → Prop} {J : β → Prop} (h : Opens P a f.type I) (ho : f.offset = off) (hb : OpensAt P b fs (off + a.sz) J) :
    OpensAt P (Kd.pair a b) (f :: fs) off (fun y => I y.1 ∧ J y.2) := by
  intro H enc w base spare held fuel cs hl hf
  obtain ⟨x, hx⟩ := hf f (List.mem_cons_self ..)
  rw [ho] at hx
  obtain ⟨y, hI, hK⟩ := h.2 H enc w base spare held fuel _ x hx
  have hl' : cs.length = off + a.sz + b.sz := by
    rw [hl]
    show off + (a.sz + b.sz) = _
    omega
  obtain ⟨z, hJ, hL⟩ := hb H enc w base spare held fuel cs hl' (fun g hg => hf g (List.mem_cons_of_mem _ hg))
  refine ⟨(y, z), ⟨hI, hJ⟩, _, _, ?_, hK, hL⟩
  rw [h.1, ← List.drop_drop, List.take_append_drop]
theorem opens_struct {d : Kd α} {t : TypeId} {fs : Array Field} {I : α → Prop} (h : OpensAt P d fs.toList 0 I) (ht : P.underlying t = some (.struct fs)) (hc : P.cellsOf t = d.sz) : Opens P d t I :=
  ⟨hc, fun H enc w base spare held fuel cs x hx => by
    obtain ⟨xs, n, _, _, hl, hn, hf⟩ := DataW.trod_struct ht hx
    have := h H enc w base spare held n cs (by rw [hl, hc]; omega) (fun f hfm => by
      obtain ⟨i, hi, rfl⟩ := List.mem_iff_getElem.1 hfm
      have hi' : i < fs.size := by simpa using hi
      have hg := hf i fs[i] (by simp [hi'])
      refine ⟨xs[i]'(by rw [hn]; exact hi'), ?_⟩
      simp only [Array.getElem_toList]
      rw [hg, List.getElem?_eq_getElem])
    simpa using this⟩
theorem opens_iso {d : Kd α} {t : TypeId} {I : α → Prop} (h : Opens P d t I) (f : β → α) (g : α → β) (hfg : ∀ x, f (g x) = x) : Opens P (Kd.iso d f) t (fun y => I (f y)) :=
  ⟨h.1, fun H enc w base spare held fuel cs x hx => by
    obtain ⟨y, hI, hK⟩ := h.2 H enc w base spare held fuel cs x hx
    refine ⟨g y, ?_, ?_⟩
    · show I (f (g y))
      rw [hfg]
      exact hI
    · show d.K w (f (g y)) cs
      rw [hfg]
      exact hK⟩
/-- A slice that comes as an argument. -/
theorem arg_slice {d : Kd α} {t e : TypeId} {I : α → Prop} (he : Opens P d e I) (ht : P.underlying t = some (.slice e)) (hc : P.cellsOf t = 1) {H : Type} {enc : TypeId × Value → H} {w : World} {base : Nat} {spare : Nat → Bool} {held : Bool} {v : Value} {y : DataW H} {p : List MemPlace}
    (h : DataW.Trod enc P w base spare held t v y p) (hv : ∃ a len cap, v = .slice a len cap) : ∃ (A : Option Addr) (c : Nat) (xs : List α), v = .slice A xs.length c ∧ xs.length ≤ c ∧ d.C w A xs.length xs ∧ xs.length ≤ maxLen ∧ ∀ x ∈ xs, I x := by
  obtain ⟨fuel, hf⟩ := h
  obtain ⟨ys, ⟨h1, h2⟩, A, c, h3, h4, h5⟩ := (opens_slice he ht hc).2 H enc w base spare held fuel _ _ hf
  obtain ⟨a, len, cap, rfl⟩ := hv
  refine ⟨A, c, ys, ?_, h4, h5, h1, h2⟩
  simpa [Value.cells] using h3
/-- A struct that comes as an argument. -/
theorem arg_struct {d : Kd α} {t : TypeId} {I : α → Prop} (he : Opens P d t I) {H : Type} {enc : TypeId × Value → H} {w : World} {base : Nat} {spare : Nat → Bool} {held : Bool} {v : Value} {y : DataW H} {p : List MemPlace}
    (h : DataW.Trod enc P w base spare held t v y p) (hv : ∃ cs : Array Value, v = .agg cs ∧ cs.size = P.cellsOf t) : ∃ (cs : Array Value) (x : α), v = .agg cs ∧ d.K w x cs.toList ∧ I x := by
  obtain ⟨fuel, hf⟩ := h
  obtain ⟨x, h1, h2⟩ := he.2 H enc w base spare held fuel _ _ hf
  obtain ⟨cs, rfl, _⟩ := hv
  exact ⟨cs, x, rfl, h2, h1⟩
end Go.Proofs.YtnpgadfoohjlnabDoor.Opn
