/- Where a Lean function of this text answers, the Go function of its name comes to that answer: no other condition. Written by a program of this session out of the translation; Lean checks it. -/
import Derived.Test.YtnpgadfoohjlnabDoorQX0
namespace Go.Proofs.YtnpgadfoohjlnabDoor.QX
open Go.RowKit Go.Proofs.YtnpgadfoohjlnabDoorW.PrintWords Go.Proofs.YtnpgadfoohjlnabDoorW.PrintLast Go.Proofs.YtnpgadfoohjlnabDoorW.PrintMore Go.Proofs.YtnpgadfoohjlnabDoorW.PrintX
attribute [local go_sem] max2_int min2_int max_two min_two max_three min_three max_four min_four   -- for this text's walks alone
set_option linter.unusedVariables false
set_option linter.unusedSimpArgs false

/-! ### tree_parts: function 40 -/
section
variable {σ : Type}
/-- d tokens from one on. -/
def tree_parts.upto (tok : σ → Int → Option σ) : Nat → σ → Int → Option σ
  | 0, s, _ => some s
  | d + 1, s, a => if -4611686018427387904 ≤ a ∧ a ≤ 4611686018427387904 then (tok s a).bind fun s' => tree_parts.upto tok d s' (a + 1) else none
/-- Blocks that stand, none of which is a row of bytes. -/
def tree_parts.Stand (N : Nat → Prop) (W : World) : Prop := ∀ k, N k → ∃ (c : Array Value) (t : TypeId), W.heap[k]? = some (.cells c t (0, 0)) ∧ t ≠ 5
/-- What a closure must do that goes over tokens, or children: it takes the state on, and leaves certain blocks as they are. -/
def tree_parts.Step (J : σ → World → Prop) (tok : σ → Int → Option σ) (B : Nat) (N : Nat → Prop) (tf : FuncId) (tc : Array Value) (w0 : World) : Prop :=
  (∀ args w, (callFunc tf args).run Tryd.prog w = .ok (.enter tf args) w) ∧ ∀ s i s' W, tree_parts.Stand N W → tok s i = some s' → J s W → Below B w0 W → Calls Tryd.prog tf (#[.int .i64 i] ++ tc) W fun e W' => e = .returned (.tuple #[]) ∧ J s' W' ∧ Below B w0 W' ∧ (∀ k, N k → W'.heap[k]? = W.heap[k]?)
theorem tree_parts.stand_of {N : Nat → Prop} {W W' : World} {ga : Nat} {v : Value} (h : tree_parts.Stand N W) (hk : ∀ k, N k → k ≠ ga → W'.heap[k]? = W.heap[k]?) (ha : W'.heap[ga]? = some (.cells #[v] 3 (0, 0))) : tree_parts.Stand N W' := by
  intro k hN
  by_cases e : k = ga
  · subst e
    exact ⟨_, 3, ha, by decide⟩
  · obtain ⟨c, t, h1, h2⟩ := h k hN
    exact ⟨c, t, (hk k hN e).trans h1, h2⟩
set_option maxHeartbeats 4000000 in
set_option maxRecDepth 100000 in
theorem tree_parts.upto_calls {J : σ → World → Prop} {tok : σ → Int → Option σ} {B : Nat} {N : Nat → Prop} {tf : FuncId} {tc : Array Value} {w0 : World}
    (hset : ∀ s W k j v, N k → J s W → J s (W.setCell ⟨k, j, none⟩ v)) (htok : tree_parts.Step J tok B N tf tc w0)
    (ga gt : Nat) (hB : B ≤ ga) (hna : N ga) (hnt : N gt) (hne : gt ≠ ga) (d : Nat) (s : σ) (a en : Int) (s' : σ) (W : World) (h : tree_parts.upto tok d s a = some s') (hd : d = (en - a).toNat)
    (hga : W.heap[ga]? = some (.cells #[.int .i64 a] 3 (0, 0))) (hgt : W.heap[gt]? = some (.cells #[.func (.func tf) #[] tc] 73 (0, 0))) (hsz : tree_parts.Stand N W) (hJ : J s W) (hw : Below B w0 W) (m : Int) (hm : m = (if a < en then en else a)) :
    Calls Tryd.prog 72 #[.int .i64 en, .pointer (some ⟨ga, 0, none⟩), .pointer (some ⟨gt, 0, none⟩)] W fun e W' => e = .returned (.tuple #[]) ∧ J s' W' ∧ Below B w0 W' ∧ W'.heap[ga]? = some (.cells #[.int .i64 m] 3 (0, 0)) ∧ (∀ k, N k → k ≠ ga → W'.heap[k]? = W.heap[k]?) ∧ tree_parts.Stand N W' := by
  have he := htok.1
  have HT := Aside0.mk htok.2
  have HS := Aside0.mk hset
  have HA := Aside0.mk hga
  have HG := Aside0.mk hgt
  have HZ := Aside0.mk hsz
  have HJ := Aside0.mk hJ
  have HW := Aside0.mk hw
  have HU := Aside0.mk h
  have HD := Aside0.mk hd
  have HM0 := Aside0.mk hm
  have NA := Aside0.mk hna
  have NT := Aside0.mk hnt
  clear htok hset hga hgt hsz hJ hw h hd hm hna hnt
  go_enter Tryd.func72, Tryd.ntmps72
  go_wp2
  go_loopg [] d (fun dq w' => ∃ (s1 : σ) (a1 : Int), Aside0 (tree_parts.upto tok dq s1 a1 = some s') ∧ Aside0 (dq = (en - a1).toNat) ∧ Aside0 (m = (if a1 < en then en else a1)) ∧ Aside0 (w'.heap[ga]? = some (.cells #[.int .i64 a1] 3 (0, 0))) ∧ Aside0 (∀ k, N k → k ≠ ga → w'.heap[k]? = W.heap[k]?) ∧ Aside0 (tree_parts.Stand N w') ∧ Aside0 (J s1 w') ∧ Aside0 (Below B w0 w'))
  case atStart => exact ⟨s, a, HU, HD, HM0, HA, ⟨fun _ _ _ => rfl⟩, HZ, HJ, HW⟩
  case round =>
    clear HA HZ HJ HW HU HD HM0
    obtain ⟨s1, a1, HU, HD, HM, HA, HK, HZ, HJ, HW⟩ := hrel
    have qa := blk_cell HA.out 0
    have qt := blk_cell ((HK.out gt NT.out hne).trans HG.out) 0
    simp only [List.getElem?_toArray, List.getElem?_cons_zero] at qa qt
    by_cases c : a1 < en
    · have c0 : decide (a1 < en) = true := decide_eq_true c
      have C := Aside0.mk c
      clear c
      obtain ⟨k1, hk1⟩ : ∃ k1, gk = k1 + 1 := ⟨gk - 1, by have := HD.out; have := C.out; omega⟩
      subst hk1
      have hu := HU.out
      simp only [tree_parts.upto] at hu
      by_cases cb : -4611686018427387904 ≤ a1 ∧ a1 ≤ 4611686018427387904
      case neg => rw [if_neg cb] at hu; cases hu
      rw [if_pos cb] at hu
      obtain ⟨s2, hs2, hu2⟩ := Option.bind_eq_some_iff.mp hu
      have CB := Aside0.mk cb
      have HS2 := Aside0.mk hs2
      have HU2 := Aside0.mk hu2
      clear cb hs2 hu2 hu HU
      go_wp2_with (first | ((with_reducible refine (HT.out s1 a1 s2 wr HZ.out HS2.out HJ.out HW.out).mono ?_); rintro e w3 ⟨rfl, hj3, hb3, hk3⟩; have ha3 := (hk3 ga NA.out).trans HA.out; have q3 := blk_cell ha3 0; have f3 := blk_frozen ha3 0; simp only [List.getElem?_toArray, List.getElem?_cons_zero] at q3; have HA3 := Aside0.mk ha3; have HJ3 := Aside0.mk hj3; have HB3 := Aside0.mk hb3; have HK3 := Aside0.mk hk3; clear ha3 hj3 hb3 hk3))
      have ew : wrap64 (a1 + 1) = a1 + 1 := by have := CB.out; unfold wrap64; omega
      have kept : ∀ k, N k → k ≠ ga → (w3.setCell ⟨ga, 0, none⟩ (.int .i64 (wrap64 (a1 + 1)))).heap[k]? = W.heap[k]? := fun k h0 h2 => (Below.heap_setCell w3 ⟨ga, 0, none⟩ _ k h2).trans ((HK3.out k h0).trans (HK.out k h0 h2))
      have kept2 : ∀ k, N k → k ≠ ga → (w3.setCell ⟨ga, 0, none⟩ (.int .i64 (wrap64 (a1 + 1)))).heap[k]? = wr.heap[k]? := fun k h0 h2 => (Below.heap_setCell w3 ⟨ga, 0, none⟩ _ k h2).trans (HK3.out k h0)
      go_roundg k1
      case measure => omega
      case rel =>
        refine ⟨s2, wrap64 (a1 + 1), ⟨by rw [ew]; exact HU2.out⟩, ⟨by rw [ew]; have := HD.out; have := C.out; omega⟩, ⟨?_⟩, ⟨blk_put HA3.out 0 _ rfl⟩, ⟨kept⟩, ⟨tree_parts.stand_of HZ.out kept2 (blk_put HA3.out 0 _ rfl)⟩, ⟨HS.out s2 w3 ga 0 _ NA.out HJ3.out⟩, ⟨HB3.out.setCell (p := ⟨ga, 0, none⟩) hB _⟩⟩
        rw [ew, HM.out, if_pos C.out]
        have := C.out
        by_cases c1 : a1 + 1 < en
        · rw [if_pos c1]
        · rw [if_neg c1]; omega
    · have c0 : decide (a1 < en) = false := decide_eq_false c
      have C := Aside0.mk c
      clear c
      go_wp2
      refine bodyPost_end (results_none rfl _ _ _) rfl ?_
      have hk0 : gk = 0 := by have := HD.out; have := C.out; omega
      subst hk0
      have e1 : s1 = s' := Option.some.inj HU.out
      subst e1
      have e2 : m = a1 := by rw [HM.out, if_neg (Int.not_lt.2 C.out)]
      subst e2
      exact ⟨rfl, HJ.out, HW.out, HA.out, HK.out, HZ.out⟩
/-- The children from one on, and the tokens between and behind them. -/
def tree_parts.run (tok kid : σ → Int → Option σ) (l : List S34) : List Int → Int → Int → σ → Option σ
  | [], at_, f2, s => tree_parts.upto tok (f2 - at_).toNat s at_
  | k :: ks, at_, f2, s => if 0 ≤ k then if k < l.length then (tree_parts.upto tok ((rd_T34 l k).f1 - at_).toNat s at_).bind fun s1 => (kid s1 k).bind fun s2 => tree_parts.run tok kid l ks (rd_T34 l k).f2 f2 s2 else none else none
set_option maxHeartbeats 8000000 in
set_option maxRecDepth 100000 in
theorem tree_parts.calls {J : (Nat → Prop) → σ → World → Prop} {tok kid : σ → Int → Option σ} {n0 : Nat} {kf tf : FuncId} {kc tc : Array Value} {w0 w : World}
    (hn : n0 = w.heap.size) (hw : Below w0.heap.size w0 w) (hbelow : ∀ N s W W', J N s W → Below W.heap.size W W' → J N s W')
    (hset : ∀ N s W k j v, (∀ q, N q → n0 ≤ q) → N k → J N s W → J N s (W.setCell ⟨k, j, none⟩ v))
    (htok : ∀ N, (∀ q, N q → n0 ≤ q) → tree_parts.Step (J N) tok w0.heap.size N tf tc w0) (hkid : ∀ N, (∀ q, N q → n0 ≤ q) → tree_parts.Step (J N) kid w0.heap.size N kf kc w0)
    (A : Option Addr) (c : Nat) (l : List S34) (f0 f1 f2 : Int) (Ak : Option Addr) (ck : Nat) (ks : List Int) (s s' : σ)
    (hr : Kd.C k34 w0 A l.length l) (hk : Kd.C (Kd.int .i64) w0 Ak ks.length ks) (h : tree_parts.run tok kid l ks f1 f2 s = some s') (hJ : ∀ N, (∀ q, N q → n0 ≤ q) → J N s w) :
    Calls Tryd.prog 40 #[.agg #[.slice A l.length c], .agg #[.int .i64 f0, .int .i64 f1, .int .i64 f2, .slice Ak ks.length ck], .func (.func kf) #[] kc, .func (.func tf) #[] tc] w fun e W' => e = .returned (.tuple #[]) ∧ (∃ N, (∀ q, N q → n0 ≤ q) ∧ J N s' W') ∧ Below w0.heap.size w0 W' := by
  have hkl : ks.length ≤ 9223372036854775807 := (show ReadsRow _ _ _ _ _ _ from hk).2.1
  have HH := Aside0.mk h
  have HJ := Aside0.mk hJ
  have HW := Aside0.mk hw
  have HBL := Aside0.mk hbelow
  have HST := Aside0.mk hset
  have HT := Aside0.mk htok
  have HK := Aside0.mk hkid
  have HN := Aside0.mk hn
  clear h hJ hw hbelow hset htok hkid hn
  go_enter Tryd.func40, Tryd.ntmps40
  go_wp2_with (first
    | ((with_reducible refine gate_dst (N := 4) rfl ?_); refine box_event ?hg (N := 4) ?hd (cs := #[.slice A l.length c]) (t := 24) ?hr ?_; (case hd => rfl); (case hg => rfl); (case hr => first | (go_simp; done) | (go_simp; rfl)); intro g0 eg0 w1 hx0 hb0; have sg0 := Nat.le_of_eq eg0.symm; clear eg0)
    | ((with_reducible refine gate_dst (N := 5) rfl ?_); refine box_event ?hg (N := 5) ?hd (cs := #[.int .i64 f0, .int .i64 f1, .int .i64 f2, .slice Ak ks.length ck]) (t := 34) ?hr ?_; (case hd => rfl); (case hg => rfl); (case hr => first | (go_simp; done) | (go_simp; rfl)); intro g1 eg1 w2 hx1 hb1; have sg1 := Nat.le_of_eq eg1.symm; clear eg1)
    | ((with_reducible refine gate_dst (N := 7) rfl ?_); refine box_event ?hg (N := 7) ?hd (cs := #[.func (.func tf) #[] tc]) (t := 73) ?hr ?_; (case hd => rfl); (case hg => rfl); (case hr => first | (go_simp; done) | (go_simp; rfl)); intro g2 eg2 w3 hx2 hb2; have sg2 := Nat.le_of_eq eg2.symm; clear eg2; have hx1' := blk_below hx1 hb2; have q11 := blk_cell hx1' 1; have q13 := blk_cell hx1' 3; simp only [List.getElem?_toArray, List.getElem?_cons_zero, List.getElem?_cons_succ] at q11 q13)
    | ((with_reducible refine gate_dst (N := 8) rfl ?_); refine box_event ?hg (N := 8) ?hd (cs := #[.int .i64 0]) (t := 3) ?hr ?_; (case hd => rfl); (case hg => rfl); (case hr => first | (go_simp; done) | (go_simp; rfl)); intro g3 eg3 w4 hx3 hb3; have sg3 := Nat.le_of_eq eg3.symm; clear eg3; have q3 := blk_cell hx3 0; have q3z := blk_frozen hx3 0; have hx1'' := blk_below hx1' hb3; have l1 := blk_lt hx1'; have n13 : g1 ≠ g3 := by { omega }; have hx1s := fun u => blk_far hx1'' (p := ⟨g3, 0, none⟩) n13 u; have q13s := fun u => blk_cell (hx1s u) 3; simp only [List.getElem?_toArray, List.getElem?_cons_zero, List.getElem?_cons_succ] at q3 q13s))
  have z0 : g0 < g1 := by have := blk_lt hx0; omega
  have z1 : g1 < g2 := by have := blk_lt hx1; omega
  have z2 : g2 < g3 := by have := blk_lt hx2; omega
  have hn1 : n0 ≤ g0 := by have := HN.out; omega
  have b4 : Below w0.heap.size w0 w4 := by
    have h0 := HW.out
    have h1 := h0.trans (hb0.mono h0.size)
    have h2 := h1.trans (hb1.mono h1.size)
    have h3 := h2.trans (hb2.mono h2.size)
    exact h3.trans (hb3.mono h3.size)
  have hwz : w0.heap.size ≤ n0 := by have := HW.out.size; have := HN.out; omega
  have hg2x : w4.heap[g2]? = some (.cells #[.func (.func tf) #[] tc] 73 (0, 0)) := blk_below hx2 hb3
  have hg1x : w4.heap[g1]? = some (.cells #[.int .i64 f0, .int .i64 f1, .int .i64 f2, .slice Ak ks.length ck] 34 (0, 0)) := hx1''
  have hg0x : w4.heap[g0]? = some (.cells #[.slice A l.length c] 24 (0, 0)) := blk_below (blk_below (blk_below hx0 hb1) hb2) hb3
  obtain ⟨N, hN⟩ : ∃ N : Nat → Prop, N = fun k => k = g0 ∨ k = g1 ∨ k = g2 ∨ k = g3 := ⟨_, rfl⟩
  have hNn : ∀ q, N q → n0 ≤ q := by intro q hq; rw [hN] at hq; omega
  have N0 := Aside0.mk (show N g0 by rw [hN]; exact .inl rfl)
  have N1 := Aside0.mk (show N g1 by rw [hN]; exact .inr (.inl rfl))
  have N2 := Aside0.mk (show N g2 by rw [hN]; exact .inr (.inr (.inl rfl)))
  have N3 := Aside0.mk (show N g3 by rw [hN]; exact .inr (.inr (.inr rfl)))
  have hj4 : J N s w4 := by
    have h0 := HBL.out _ _ _ _ (HJ.out N hNn) hb0
    have h1 := HBL.out _ _ _ _ h0 hb1
    have h2 := HBL.out _ _ _ _ h1 hb2
    exact HBL.out _ _ _ _ h2 hb3
  have hz4 : tree_parts.Stand N w4 := by
    intro k hk'
    rw [hN] at hk'
    rcases hk' with rfl | rfl | rfl | rfl
    · exact ⟨_, _, hg0x, by decide⟩
    · exact ⟨_, _, hg1x, by decide⟩
    · exact ⟨_, _, hg2x, by decide⟩
    · exact ⟨_, _, hx3, by decide⟩
  have Z := Aside0.mk (⟨hn1, z0, z1, z2, hwz⟩ : n0 ≤ g0 ∧ g0 < g1 ∧ g1 < g2 ∧ g2 < g3 ∧ w0.heap.size ≤ n0)
  have NN := Aside0.mk hNn
  have X0 := Aside0.mk hg0x
  have X1 := Aside0.mk hg1x
  have X2 := Aside0.mk hg2x
  have X3 := Aside0.mk hx3
  have J4 := Aside0.mk hj4
  have B4 := Aside0.mk b4
  have Z4 := Aside0.mk hz4
  have HR := Aside0.mk hr
  have HKS := Aside0.mk hk
  have HKL := Aside0.mk hkl
  clear hx0 hb0 sg0 hx1 hb1 sg1 hx2 hb2 sg2 hx1' q11 q13 hx3 hb3 sg3 q3 q3z hx1'' l1 n13 hx1s q13s z0 z1 z2 hn1 b4 hwz hg2x hg1x hg0x hj4 hz4 HJ HBL HW HN hr hk hkl hNn hN
  go_loopg [18] ks.length (fun kq v18 w' => ∃ (i : Nat) (s1 : σ) (a1 : Int), v18 = .int .i64 (i : Int) ∧ Aside0 (i + kq = ks.length) ∧ Aside0 (tree_parts.run tok kid l (ks.drop i) a1 f2 s1 = some s') ∧ Aside0 (w'.heap[g3]? = some (.cells #[.int .i64 a1] 3 (0, 0))) ∧ Aside0 (∀ k, N k → k ≠ g3 → w'.heap[k]? = w4.heap[k]?) ∧ Aside0 (tree_parts.Stand N w') ∧ Aside0 (J N s1 w') ∧ Aside0 (Below w0.heap.size w0 w'))
  case atStart =>
    have kept : ∀ k, N k → k ≠ g3 → (w4.setCell ⟨g3, 0, none⟩ (.int .i64 f1)).heap[k]? = w4.heap[k]? := fun k h0 h2 => Below.heap_setCell w4 ⟨g3, 0, none⟩ _ k h2
    exact ⟨0, s, f1, rfl, ⟨by omega⟩, HH, ⟨blk_put X3.out 0 _ rfl⟩, ⟨kept⟩, ⟨tree_parts.stand_of Z4.out kept (blk_put X3.out 0 _ rfl)⟩, ⟨HST.out N s w4 g3 0 _ NN.out N3.out J4.out⟩, ⟨B4.out.setCell (p := ⟨g3, 0, none⟩) (by have := Z.out; show _ ≤ g3; omega) _⟩⟩
  case round =>
    clear HH J4 B4 Z4
    obtain ⟨i, s1, a1, rfl, HI, HU, HA, HF, HZ, HJ, HW⟩ := hrel
    have hZ := Z.out
    have hek := (HK.out N NN.out).1
    have HKC := Aside0.mk (HK.out N NN.out).2
    have q0 := blk_cell ((HF.out g0 N0.out (by omega)).trans X0.out) 0
    have q12 := blk_cell ((HF.out g1 N1.out (by omega)).trans X1.out) 2
    have hp2 := (HF.out g2 N2.out (by omega)).trans X2.out
    simp only [List.getElem?_toArray, List.getElem?_cons_zero, List.getElem?_cons_succ] at q0 q12
    have HP2 := Aside0.mk hp2
    clear hp2 hZ
    by_cases c0 : i < ks.length
    · have c1 : (i : Int) < (ks.length : Int) := by omega
      have c2 : decide ((i : Int) < (ks.length : Int)) = true := decide_eq_true c1
      have hu := HU.out
      rw [List.drop_eq_getElem_cons c0] at hu
      obtain ⟨kk, hkk⟩ : ∃ kk, kk = ks[i] := ⟨_, rfl⟩
      rw [← hkk] at hu
      simp only [tree_parts.run] at hu
      by_cases d0 : 0 ≤ kk
      case neg => rw [if_neg d0] at hu; cases hu
      rw [if_pos d0] at hu
      by_cases d1 : kk < (l.length : Int)
      case neg => rw [if_neg d1] at hu; cases hu
      rw [if_pos d1] at hu
      obtain ⟨s2, hs2, hu⟩ := Option.bind_eq_some_iff.mp hu
      obtain ⟨s3, hs3, hu⟩ := Option.bind_eq_some_iff.mp hu
      have S2 := Aside0.mk hs2
      have S3 := Aside0.mk hs3
      have U2 := Aside0.mk hu
      clear hs2 hs3 hu HU
      obtain ⟨ad1, cc, eA1, _, hK1, hc1⟩ := Kd.C_get HKS.out (0 : Int) (i : Int) (by omega) c1
      have hK1' : cc = [.int .i64 (ks.getD (i : Int).toNat 0)] := hK1
      subst hK1'
      have hc1' : w0.cell? (ad1.add i) = some (.int .i64 kk) := by
        have := hc1 0 _ rfl
        rw [Int.toNat_natCast, show i * (Kd.int IntKind.i64).sz + 0 = i by show i * 1 + 0 = i; omega, List.getD_eq_getElem?_getD, List.getElem?_eq_getElem c0] at this
        rw [this, hkk]
        rfl
      have K1 := (HW.out.cell (World.block_lt_of_cell? w0 _ hc1')).trans hc1'
      obtain ⟨ad2, A3, c3, eA2, _, hx1, hx2, _, _, _⟩ := at_T34 HR.out kk d0 d1
      have M1 := fun (W : World) (hb : Below w0.heap.size w0 W) => (hb.cell (World.block_lt_of_cell? w0 _ hx1)).trans hx1
      have M2 := fun (W : World) (hb : Below w0.heap.size w0 W) => (hb.cell (World.block_lt_of_cell? w0 _ hx2)).trans hx2
      have M1r := M1 wr HW.out
      have MM := Aside0.mk M2
      have D0 : (0 ≤ kk) = True := eq_true d0
      have D1 : (kk < (l.length : Int)) = True := eq_true d1
      subst eA1 eA2
      clear hK1 hc1 hc1' hx1 hx2 M1 M2 hkk d0 d1
      go_wp2_with (first
        | (go_at_call 72; (with_reducible refine (tree_parts.upto_calls (J := J N) (fun s W k j v h h' => HST.out N s W k j v NN.out h h') (HT.out N NN.out) g3 g2 (by have := Z.out; omega) N3.out N2.out (by have := Z.out; omega) _ s1 a1 _ s2 _ S2.out rfl HA.out HP2.out HZ.out HJ.out HW.out _ rfl).mono ?_); rintro e w5 ⟨rfl, hj5, hb5, hg5, hk5, hz5⟩; have J5 := Aside0.mk hj5; have B5 := Aside0.mk hb5; have G5 := Aside0.mk hg5; have F5 := Aside0.mk hk5; have Z5 := Aside0.mk hz5; clear hj5 hb5 hg5 hk5 hz5)
        | ((with_reducible refine (HKC.out s2 kk s3 _ Z5.out S3.out J5.out B5.out).mono ?_); rintro e w6 ⟨rfl, hj6, hb6, hk6⟩; have hf6 : ∀ k, N k → k ≠ g3 → w6.heap[k]? = w4.heap[k]? := fun k h0 h2 => (hk6 k h0).trans ((F5.out k h0 h2).trans (HF.out k h0 h2)); have hg6 := (hk6 g3 N3.out).trans G5.out; have q0' := blk_cell ((hf6 g0 N0.out (by have := Z.out; omega)).trans X0.out) 0; have q3' := blk_cell hg6 0; have z3' := blk_frozen hg6 0; have n2' := MM.out w6 hb6; simp only [List.getElem?_toArray, List.getElem?_cons_zero, List.getElem?_cons_succ] at q0' q3'; have J6 := Aside0.mk hj6; have B6 := Aside0.mk hb6; have G6 := Aside0.mk hg6; have F6 := Aside0.mk hf6; have K6 := Aside0.mk hk6; clear hj6 hb6 hk6 hf6 hg6))
      have ew : wrap64 ((i : Int) + 1) = ((i + 1 : Nat) : Int) := by have := HKL.out; unfold wrap64; omega
      have kept : ∀ u k, N k → k ≠ g3 → (w6.setCell ⟨g3, 0, none⟩ u).heap[k]? = w4.heap[k]? := fun u k h0 h2 => (Below.heap_setCell w6 ⟨g3, 0, none⟩ _ k h2).trans (F6.out k h0 h2)
      have kept2 : ∀ u k, N k → k ≠ g3 → (w6.setCell ⟨g3, 0, none⟩ u).heap[k]? = wr.heap[k]? := fun u k h0 h2 => (Below.heap_setCell w6 ⟨g3, 0, none⟩ _ k h2).trans ((K6.out k h0).trans (F5.out k h0 h2))
      have KP := Aside0.mk kept
      have KP2 := Aside0.mk kept2
      clear kept kept2
      go_roundg (ks.length - (i + 1))
      case measure => have := HI.out; omega
      case rel =>
        exact ⟨i + 1, s3, _, by rw [ew], ⟨by omega⟩, U2, ⟨blk_put G6.out 0 _ rfl⟩, ⟨KP.out _⟩, ⟨tree_parts.stand_of HZ.out (KP2.out _) (blk_put G6.out 0 _ rfl)⟩, ⟨HST.out N s3 w6 g3 0 _ NN.out N3.out J6.out⟩, ⟨B6.out.setCell (p := ⟨g3, 0, none⟩) (by have := Z.out; show _ ≤ g3; omega) _⟩⟩
    · have c1 : ¬ (i : Int) < (ks.length : Int) := by omega
      have c2 : decide ((i : Int) < (ks.length : Int)) = false := decide_eq_false c1
      have hi0 : i = ks.length := by have := HI.out; omega
      have hu := HU.out
      rw [hi0, List.drop_length] at hu
      simp only [tree_parts.run] at hu
      have U2 := Aside0.mk hu
      clear hu HU
      go_wp2_with (first
        | (go_at_call 72; (with_reducible refine (tree_parts.upto_calls (J := J N) (fun s W k j v h h' => HST.out N s W k j v NN.out h h') (HT.out N NN.out) g3 g2 (by have := Z.out; omega) N3.out N2.out (by have := Z.out; omega) _ s1 a1 _ s' _ U2.out rfl HA.out HP2.out HZ.out HJ.out HW.out _ rfl).mono ?_); rintro e w5 ⟨rfl, hj5, hb5, hg5, hk5, hz5⟩; have J5 := Aside0.mk hj5; have B5 := Aside0.mk hb5; clear hj5 hb5 hg5 hk5 hz5))
      refine bodyPost_end (results_none rfl _ _ _) rfl ?_
      exact ⟨rfl, ⟨N, NN.out, J5.out⟩, B5.out⟩
end

-- NOT PRINTED: function 107 (abi_NoEscape)

-- NOT PRINTED: function 92 (strings_Builder_copyCheck)

-- NOT PRINTED: function 62 (strings_Builder_WriteString)
end Go.Proofs.YtnpgadfoohjlnabDoor.QX
