/- ViewTells, plain: the answer is true, whether there is a file or not. No condition beyond what each lemma says. -/
import Derived.Test.YtnpgadfoohjlnaaZN2
namespace Go.Proofs.Ytnpgadfoohjlnaa.Plain
open Go.RowKit Go.Proofs.YtnpgadfoohjlnaaW.PrintWords Go.Proofs.YtnpgadfoohjlnaaW.PrintLast Go.Proofs.YtnpgadfoohjlnaaW.PrintMore Go.Proofs.Ytnpgadfoohjlnaa.QV

theorem ev_get {α : Type} {g : Nat → Option α} {r : α} (h : Ev g r) : ∃ K, ∀ k, K ≤ k → g k = some r := h
theorem few15_ev (b : List Int) (ts : List S38) (l : List S44) : Ev (fun k => cavillaw15_few.f k b ts l) (b.take 300, ts.take 60, fewOf l) :=
  (few_ev l).bind (f := fun _ t => some (b.take 300, ts.take 60, t)) (Ev.now _)
theorem new_ev (b : List Int) (ts : List S38) (l : List S44) (hs : Small l) (h : badOf l (ts.length : Int) = none) : Ev (fun k => view_New.f k b ts l) (fileOf b ts l, ()) := by
  refine (check_ev l hs (ts.length : Int)).bind (f := fun _ t => if t.isNone = true then some ([(⟨b, ts, ⟨l⟩⟩ : S72)], ()) else none) ?_
  rw [h]
  exact Ev.now _
theorem new_nil_ev (b : List Int) (ts : List S38) (l : List S44) (hs : Small l) {q : Option Nat} (h : badOf l (ts.length : Int) = some q) : ∃ e, Ev (fun k => view_New_nil.f k b ts l) ((), e) := by
  obtain ⟨e, he⟩ : ∃ e, badE (some q) = some e := by cases q <;> exact ⟨_, rfl⟩
  refine ⟨e, ?_⟩
  have := (check_ev l hs (ts.length : Int)).bind (f := fun _ t => t.map fun q => ((), q)) (r := ((), e)) ?_
  · exact this
  rw [h, he]
  exact Ev.now _
theorem take60 (ts : List S38) : (ts.take 60).length ≤ 100 := by rw [List.length_take]; omega
end Go.Proofs.Ytnpgadfoohjlnaa.Plain
