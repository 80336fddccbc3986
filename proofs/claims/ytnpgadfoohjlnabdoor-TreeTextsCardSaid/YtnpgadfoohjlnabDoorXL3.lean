/- Trees, plain: the document's text and owner. No condition beyond what each lemma says. -/
import Derived.Test.YtnpgadfoohjlnabDoorXL2
import Derived.Test.YtnpgadfoohjlnabDoorQX10
import Derived.Test.YtnpgadfoohjlnabDoorQX9
import Derived.Test.YtnpgadfoohjlnabDoorQX7
namespace Go.Proofs.YtnpgadfoohjlnabDoor.Plain
open Go.RowKit Go.Proofs.YtnpgadfoohjlnabDoorW.PrintWords Go.Proofs.YtnpgadfoohjlnabDoorW.PrintLast Go.Proofs.YtnpgadfoohjlnabDoorW.PrintMore Go.Proofs.YtnpgadfoohjlnabDoor.QX

def bs (x : List UInt8) : ByteArray := ⟨x.toArray⟩
theorem bs_size (x : List UInt8) : (bs x).size = x.length := by
  show x.toArray.size = _
  simp
theorem bs_app (x y : List UInt8) : bs x ++ bs y = bs (x ++ y) := by
  have h : (bs x ++ bs y).data = (bs (x ++ y)).data := by
    rw [ByteArray.data_append]
    simp [bs]
  cases h1 : bs x ++ bs y
  cases h2 : bs (x ++ y)
  rw [h1, h2] at h
  simpa using h
theorem num_f (n : Int) (h0 : 0 ≤ n) (h1 : n ≤ 99) : cavilref13_number.f n = some (bs (tree_Text.dig n.toNat)) := by
  have h : ∀ m : Fin 100, cavilref13_number.f ((m.val : Nat) : Int) = some (bs (tree_Text.dig m.val)) := by decide +kernel
  obtain ⟨m, rfl⟩ := Int.eq_ofNat_of_zero_le h0
  exact h ⟨m, by omega⟩
theorem segT_tok (l : List S34) (T : Int → List UInt8) (z a : Int) : ∀ ks : List Int, a < z → (∀ k ∈ ks, a < (rd_T34 l k).f1) → segT l T a ks z = tokT a ++ segT l T (a + 1) ks z
  | [], h, _ => by
    rw [segT, segT, show (z - a).toNat = (z - (a + 1)).toNat + 1 by omega, toks, List.flatMap_cons]
  | k :: ks, h, hk => by
    have := hk k (List.mem_cons_self ..)
    rw [segT, segT, show ((rd_T34 l k).f1 - a).toNat = ((rd_T34 l k).f1 - (a + 1)).toNat + 1 by omega, toks, List.flatMap_cons, List.append_assoc]
theorem rtext_loop (l : List S34) (hs : Small l) {t : Int} (hf : Fine l t) (ht : t ≤ 100) (i : Nat) (hi : i < l.length) (ih : ∀ k ∈ l[i].f3, Ev (fun n => cavilref13_Text.f n l k) (bs (txtT l l.length k))) :
    ∀ (d j : Nat) (c a : Int) (x : List UInt8), d = (l[i].f2 + 1 - a).toNat + (l[i].f3.length - j) → j ≤ l[i].f3.length → chain l c (l[i].f3.drop j) l[i].f2 = true → l[i].f1 ≤ a → a ≤ l[i].f2 → (∀ q ∈ l[i].f3.take j, (rd_T34 l q).f2 ≤ c) → (a < c → ∃ q ∈ l[i].f3.take j, (rd_T34 l q).f1 ≤ a ∧ (rd_T34 l q).f2 = c) → (∀ q ∈ l[i].f3.drop j, a ≤ (rd_T34 l q).f1) →
    (x ++ segT l (txtT l l.length) (if a < c then c else a) (l[i].f3.drop j) l[i].f2).length ≤ 30000 →
    Ev (fun n => cavilref13_Text.l1 n i (bs x) (j : Int) a l l[i].f0 l[i].f1 l[i].f2 l[i].f3) (bs (x ++ segT l (txtT l l.length) (if a < c then c else a) (l[i].f3.drop j) l[i].f2 ++ [41])) := by
  intro d
  induction d using Nat.strongRecOn with
  | _ d hd =>
    intro j c a x hde hj hch ha0 ha1 hdone hin hfut hlen
    have hk20 := hs.2 _ (List.getElem_mem hi)
    obtain ⟨⟨_, _, g1, g2, g3⟩, _⟩ := hf.head i hi
    have hle : ∀ q ∈ l[i].f3.drop j, (rd_T34 l q).f1 ≤ (rd_T34 l q).f2 := fun q hq => hf.le i hi q (List.mem_of_mem_drop hq)
    have hcz := (chain_le l _ _ _ hle hch).1
    -- the step over one token
    have step : (∀ q ∈ l[i].f3.drop j, a < (rd_T34 l q).f1) → Ev (fun n => cavilref13_Text.j2 n i (bs x) (j : Int) a l l[i].f0 l[i].f1 l[i].f2 l[i].f3) (bs (x ++ segT l (txtT l l.length) (if a < c then c else a) (l[i].f3.drop j) l[i].f2 ++ [41])) := fun hlt => by
      by_cases hac : a < c
      · obtain ⟨q, q1, q2, q3⟩ := hin hac
        have hno : ownsB l l[i] a = false := by
          unfold ownsB
          split
          · refine Bool.eq_false_iff.2 fun hn => ?_
            exact (noKid_iff l a _).1 hn q (List.mem_of_mem_take q1) ⟨q2, by omega⟩
          · rfl
        have next := hd ((l[i].f2 + 1 - (a + 1)).toNat + (l[i].f3.length - j)) (by omega) j c (a + 1) x rfl hj hch (by omega) (by omega) hdone (fun _ => ⟨q, q1, by omega, q3⟩) (fun q hq => by have := hlt q hq; omega) (by
          rw [if_pos hac] at hlen
          by_cases e : a + 1 < c
          · rw [if_pos e]; exact hlen
          · rw [if_neg e, show a + 1 = c by omega]; exact hlen)
        have e2 : (if a + 1 < c then c else a + 1) = (if a < c then c else a) := by
          rw [if_pos hac]
          by_cases e : a + 1 < c
          · rw [if_pos e]
          · rw [if_neg e]; omega
        rw [e2] at next
        refine evNext ((owns_ev l hs hf i hi a).bind (f := fun k t244 => (if t244 = true then (if (bs x).size + 1 ≤ 9223372036854775807 then ((cavilref13_number.f a).bind fun t245 => (if (bs x ++ (⟨#[32]⟩ : ByteArray)).size + t245.size ≤ 9223372036854775807 then (cavilref13_Text.l0 k i ((bs x ++ (⟨#[32]⟩ : ByteArray)) ++ t245) (j : Int) (wrap64 (a + 1)) l l[i].f0 l[i].f1 l[i].f2 l[i].f3) else (none))) else (none)) else (cavilref13_Text.l0 k i (bs x) (j : Int) (wrap64 (a + 1)) l l[i].f0 l[i].f1 l[i].f2 l[i].f3))) ?_) fun n => ?_
        · rw [hno]
          refine evCong (evNext (f := fun n => cavilref13_Text.l1 n i (bs x) (j : Int) (a + 1) l l[i].f0 l[i].f1 l[i].f2 l[i].f3) (g := fun n => cavilref13_Text.l0 n i (bs x) (j : Int) (a + 1) l l[i].f0 l[i].f1 l[i].f2 l[i].f3) next fun n => ?_) fun n => ?_
          · simp only [cavilref13_Text.l0]
            rw [if_pos (by omega)]
          · rw [if_neg (by simp), w64_id (by omega) (by omega)]
        · simp only [cavilref13_Text.j2]
      · rw [if_neg hac] at hlen ⊢
        by_cases haz : a < l[i].f2
        · have hown : ownsB l l[i] a = true := by
            unfold ownsB
            rw [if_pos ⟨ha0, haz⟩, noKid_iff]
            intro q hq hx
            unfold hasT at hx
            rw [← List.take_append_drop j l[i].f3] at hq
            rcases List.mem_append.1 hq with hq | hq
            · have := hdone q hq
              omega
            · have := hlt q hq
              omega
          rw [segT_tok l _ _ a _ haz hlt] at hlen ⊢
          have hl3 := tokT_len a
          have next := hd ((l[i].f2 + 1 - (a + 1)).toNat + (l[i].f3.length - j)) (by omega) j c (a + 1) (x ++ tokT a) rfl hj hch (by omega) (by omega) hdone (fun h => by omega) (fun q hq => by have := hlt q hq; omega) (by rw [if_neg (by omega), List.append_assoc]; exact hlen)
          rw [if_neg (show ¬ a + 1 < c by omega), List.append_assoc x] at next
          have hxl : x.length ≤ 30000 := by
            rw [List.length_append] at hlen
            omega
          have hdl := tree_Text.dig_len a.toNat
          refine evNext ((owns_ev l hs hf i hi a).bind (f := fun k t244 => (if t244 = true then (if (bs x).size + 1 ≤ 9223372036854775807 then ((cavilref13_number.f a).bind fun t245 => (if (bs x ++ (⟨#[32]⟩ : ByteArray)).size + t245.size ≤ 9223372036854775807 then (cavilref13_Text.l0 k i ((bs x ++ (⟨#[32]⟩ : ByteArray)) ++ t245) (j : Int) (wrap64 (a + 1)) l l[i].f0 l[i].f1 l[i].f2 l[i].f3) else (none))) else (none)) else (cavilref13_Text.l0 k i (bs x) (j : Int) (wrap64 (a + 1)) l l[i].f0 l[i].f1 l[i].f2 l[i].f3))) ?_) fun n => ?_
          · rw [hown]
            refine evCong (evNext (f := fun n => cavilref13_Text.l1 n i (bs (x ++ tokT a)) (j : Int) (a + 1) l l[i].f0 l[i].f1 l[i].f2 l[i].f3) (g := fun n => cavilref13_Text.l0 n i (bs (x ++ tokT a)) (j : Int) (a + 1) l l[i].f0 l[i].f1 l[i].f2 l[i].f3) next fun n => ?_) fun n => ?_
            · simp only [cavilref13_Text.l0]
              rw [if_pos (by omega)]
            · have e32 : (⟨#[32]⟩ : ByteArray) = bs [32] := rfl
              rw [if_pos rfl, num_f a (by omega) (by omega), e32, bs_app, bs_size, bs_size, if_pos (by omega), Option.bind_some, bs_size, if_pos (by rw [List.length_append, List.length_singleton]; omega), bs_app, w64_id (by omega) (by omega), List.append_assoc]
              rfl
          · simp only [cavilref13_Text.j2]
        · have hnil : l[i].f3.drop j = [] := by
            cases hdr : l[i].f3.drop j with
            | nil => rfl
            | cons q qs =>
              have h1 := hlt q (by rw [hdr]; exact List.mem_cons_self ..)
              have h2 := chain_hi l _ _ _ hle hch q (by rw [hdr]; exact List.mem_cons_self ..)
              have h3 := hle q (by rw [hdr]; exact List.mem_cons_self ..)
              omega
          have hno : ownsB l l[i] a = false := by
            unfold ownsB
            rw [if_neg (by omega)]
          have eseg : segT l (txtT l l.length) a (l[i].f3.drop j) l[i].f2 = [] := by
            rw [hnil, segT, show (l[i].f2 - a).toNat = 0 by omega]
            rfl
          rw [eseg, List.append_nil] at hlen ⊢
          refine evNext ((owns_ev l hs hf i hi a).bind (f := fun k t244 => (if t244 = true then (if (bs x).size + 1 ≤ 9223372036854775807 then ((cavilref13_number.f a).bind fun t245 => (if (bs x ++ (⟨#[32]⟩ : ByteArray)).size + t245.size ≤ 9223372036854775807 then (cavilref13_Text.l0 k i ((bs x ++ (⟨#[32]⟩ : ByteArray)) ++ t245) (j : Int) (wrap64 (a + 1)) l l[i].f0 l[i].f1 l[i].f2 l[i].f3) else (none))) else (none)) else (cavilref13_Text.l0 k i (bs x) (j : Int) (wrap64 (a + 1)) l l[i].f0 l[i].f1 l[i].f2 l[i].f3))) ?_) fun n => ?_
          · rw [hno]
            refine evCong (evConst (g := fun n => cavilref13_Text.l0 n i (bs x) (j : Int) (a + 1) l l[i].f0 l[i].f1 l[i].f2 l[i].f3) fun n => ?_) fun n => ?_
            · have e41 : (⟨#[41]⟩ : ByteArray) = bs [41] := rfl
              simp only [cavilref13_Text.l0]
              rw [if_neg (by omega), if_pos (by rw [bs_size]; omega), e41, bs_app]
            · rw [if_neg (by simp), w64_id (by omega) (by omega)]
          · simp only [cavilref13_Text.j2]
    by_cases hjl : j < l[i].f3.length
    · have e := rd_nat l[i].f3 j hjl
      have hmem : l[i].f3[j] ∈ l[i].f3 := List.getElem_mem hjl
      have hdrop := List.drop_eq_getElem_cons hjl
      obtain ⟨b1, b2⟩ := hf.kid i hi _ hmem
      by_cases c1 : (rd_T34 l l[i].f3[j]).f1 = a
      · rw [hdrop] at hch hlen hfut hle ⊢
        have hch' := hch
        rw [chain] at hch'
        split at hch'
        case isFalse => cases hch'
        rename_i hca
        have hff := hle _ (List.mem_cons_self ..)
        rw [if_neg (show ¬ a < c by omega), segT, show ((rd_T34 l l[i].f3[j]).f1 - a).toNat = 0 by omega] at hlen ⊢
        have ez : (toks a 0).flatMap tokT = [] := rfl
        rw [ez, List.nil_append, List.cons_append] at hlen ⊢
        have hcl := (chain_le l _ _ _ (fun q hq => hle q (List.mem_cons_of_mem _ hq)) hch').2
        have eif : (if a < (rd_T34 l l[i].f3[j]).f2 then (rd_T34 l l[i].f3[j]).f2 else a) = (rd_T34 l l[i].f3[j]).f2 := by
          by_cases q : a < (rd_T34 l l[i].f3[j]).f2
          · rw [if_pos q]
          · rw [if_neg q]; omega
        have etk : l[i].f3.take (j + 1) = l[i].f3.take j ++ [l[i].f3[j]] := by
          rw [List.take_add_one, List.getElem?_eq_getElem hjl]
          rfl
        have hme : (l[i].f2 + 1 - a).toNat + (l[i].f3.length - (j + 1)) < d := by
          clear hin hfut hdone step hd hlen hch hch' hcl
          omega
        have next := hd ((l[i].f2 + 1 - a).toNat + (l[i].f3.length - (j + 1))) hme (j + 1) (rd_T34 l l[i].f3[j]).f2 a (x ++ 32 :: txtT l l.length l[i].f3[j]) rfl (by omega) hch' ha0 ha1 (fun q hq => by
          rw [etk] at hq
          rcases List.mem_append.1 hq with hq | hq
          · have := hdone q hq
            omega
          · simp at hq
            rw [hq]
            exact Int.le_refl _) (fun _ => ⟨l[i].f3[j], by rw [etk]; exact List.mem_append_right _ (List.mem_singleton.2 rfl), Int.le_of_eq c1, rfl⟩) (fun q hq => by
          have := hcl q hq
          omega) (by
          rw [eif, List.append_assoc]
          exact hlen)
        rw [eif, List.append_assoc x, List.cons_append] at next
        have hxl : x.length + (txtT l l.length l[i].f3[j]).length ≤ 30000 := by
          simp only [List.length_append, List.length_cons] at hlen
          omega
        refine evNext ((ih _ hmem).bind (f := fun k t243 => (if (bs x ++ (⟨#[32]⟩ : ByteArray)).size + t243.size ≤ 9223372036854775807 then (cavilref13_Text.l1 k i ((bs x ++ (⟨#[32]⟩ : ByteArray)) ++ t243) (wrap64 ((j : Int) + 1)) a l l[i].f0 l[i].f1 l[i].f2 l[i].f3) else (none))) ?_) fun n => ?_
        · refine evCong next fun n => ?_
          have e32 : (⟨#[32]⟩ : ByteArray) = bs [32] := rfl
          rw [e32, bs_app, bs_size, bs_size, if_pos (by rw [List.length_append, List.length_singleton]; omega), bs_app, w64_succ (n := 100) (by omega) (by omega), List.append_assoc]
          rfl
        · simp only [cavilref13_Text.l1]
          rw [if_pos (by omega), if_pos (by omega), e, if_pos b1, if_pos (by omega), if_pos c1, if_pos (by rw [bs_size]; omega)]
      · refine evNext (step fun q hq => ?_) fun n => ?_
        · rw [hdrop] at hq hfut hch hle
          have h0 := hfut _ (List.mem_cons_self ..)
          rcases List.mem_cons.1 hq with rfl | hq
          · omega
          · rw [chain] at hch
            split at hch
            case isFalse => cases hch
            have h2 := (chain_le l _ _ _ (fun q hq => hle q (List.mem_cons_of_mem _ hq)) hch).2 q hq
            have h3 := hle _ (List.mem_cons_self ..)
            omega
        · simp only [cavilref13_Text.l1]
          rw [if_pos (by omega), if_pos (by omega), e, if_pos b1, if_pos (by omega), if_neg c1]
    · refine evNext (step fun q hq => ?_) fun n => ?_
      · rw [List.drop_of_length_le (by omega)] at hq
        cases hq
      · simp only [cavilref13_Text.l1]
        rw [if_neg (by omega)]
theorem rtext_ev (l : List S34) (hs : Small l) {t : Int} (hf : Fine l t) (ht : t ≤ 100) : ∀ i : Nat, i < l.length → Ev (fun n => cavilref13_Text.f n l i) (bs (txtT l l.length i)) := by
  intro i
  induction i using Nat.strongRecOn with
  | _ i ih =>
    intro hi
    obtain ⟨⟨g4, g5, g1, g2, g3⟩, hch⟩ := hf.head i hi
    have hlen := text_len l hs hf ht i hi
    have eT : txtT l l.length i = 40 :: tree_Text.dig l[i].f0.toNat ++ segT l (txtT l l.length) l[i].f1 l[i].f3 l[i].f2 ++ [41] := by
      rw [txtT_eq hf l.length (l.length + 1) i hi hi (by omega), txtT, rd33_nat l i hi]
    rw [eT] at hlen ⊢
    have loop := rtext_loop l hs hf ht i hi (fun k hk => by
      obtain ⟨a, b⟩ := hf.kid i hi k hk
      obtain ⟨n, rfl⟩ := Int.eq_ofNat_of_zero_le a
      exact ih n (by omega) (by omega)) _ 0 l[i].f1 l[i].f1 (40 :: tree_Text.dig l[i].f0.toNat) rfl (by omega) hch (Int.le_refl _) g2 (fun q hq => by simp at hq) (fun h => by omega) (fun q hq => (chain_le l _ _ _ (hf.le i hi) hch).2 q hq) (by
      rw [if_neg (by omega), List.drop_zero]
      rw [List.length_append, List.length_singleton] at hlen
      omega)
    rw [if_neg (by omega), List.drop_zero] at loop
    have hdl := tree_Text.dig_len l[i].f0.toNat
    refine evNext (evNext (f := fun n => cavilref13_Text.l1 n i (bs (40 :: tree_Text.dig l[i].f0.toNat)) ((0 : Nat) : Int) l[i].f1 l l[i].f0 l[i].f1 l[i].f2 l[i].f3) (g := fun n => cavilref13_Text.l0 n i (bs (40 :: tree_Text.dig l[i].f0.toNat)) 0 l[i].f1 l l[i].f0 l[i].f1 l[i].f2 l[i].f3) loop fun n => ?_) fun n => ?_
    · simp only [cavilref13_Text.l0]
      rw [if_pos g2]
      rfl
    · have e40 : (⟨#[40]⟩ : ByteArray) = bs [40] := rfl
      simp only [cavilref13_Text.f]
      rw [if_pos (by omega), if_pos (by omega), rd33_nat l i hi, num_f _ g4 (by omega), Option.bind_some, bs_size, if_pos (by omega), e40, bs_app]
      rfl
end Go.Proofs.YtnpgadfoohjlnabDoor.Plain
