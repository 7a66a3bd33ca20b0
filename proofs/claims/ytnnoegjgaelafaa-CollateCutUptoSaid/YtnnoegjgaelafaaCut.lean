/- The law CollateCut: the walk. -/
import Derived.Test.YtnnoegjgaelafaaCutPure
namespace Go.Proofs.Ytnnoegjgaelafaa.Pr
open Go.RowKit Go.Proofs.YtnnoegjgaelafaaW.PrintWords Go.Proofs.YtnnoegjgaelafaaW.PrintLast
set_option linter.unusedVariables false
set_option linter.unusedSimpArgs false

theorem cbstep {a w w1 : World} (h : Below a.heap.size a w) (hb : Below w.heap.size w w1) : Below a.heap.size a w1 := h.trans (hb.mono h.size)
theorem ccell {W w1 : World} {p : Addr} {v : Value} (hb : Below W.heap.size W w1) (hc : W.cell? p = some v) : w1.cell? p = some v := (hb.cell (World.block_lt_of_cell? W p hc)).trans hc
theorem fields_calls (s : ByteArray) (hs : s.size ≤ 1048576) (t : Int) (W : World) :
    Calls Try.prog 6 #[.string s, .int .i64 t] W fun e w' => ∃ (A : Option Addr) (c : Nat), e = .returned (.slice A (fieldsL s t).length c) ∧ Kd.C k27 w' A (fieldsL s t).length (spans (fieldsL s t)) ∧ Below W.heap.size W w' := by
  obtain ⟨K, hK⟩ := fields_prog s hs t
  refine (collate_Fields.calls K s t _ W (hK K (Nat.le_refl _))).mono (fun e w' h => ?_)
  obtain ⟨v, he, hR, hb⟩ := h
  obtain ⟨A, c, rfl, _, hC⟩ := Kd.R_reads hR
  have hl : (spans (fieldsL s t)).length = (fieldsL s t).length := by simp [spans]
  rw [hl] at hC he
  exact ⟨A, c, he, hC, hb⟩
theorem startTo_succ (l : List (Nat × Nat)) (j : Nat) : startTo l (j + 1) = ((l[j]?).getD (0, 0)).2 := rfl
/-- The facts of field i. -/
theorem field_facts (s : ByteArray) (t : Int) (h0 : 0 ≤ t) (h1 : t ≤ 255) (i : Nat) (hi : i < (fieldsL s t).length) :
    ∃ a b : Nat, (fieldsL s t)[i]? = some (a, b) ∧ a ≤ b ∧ b ≤ s.size ∧ (∀ k : Nat, k < b - a → bt s ((a + k : Nat) : Int) ≠ t) ∧
      (i = 0 → a = 0) ∧ (0 < i → startTo (fieldsL s t) i < s.size ∧ a = startTo (fieldsL s t) i + 1 ∧ bt s ((startTo (fieldsL s t) i : Nat) : Int) = t) ∧ startTo (fieldsL s t) (i + 1) = b := by
  have hL : fieldsL s t = fieldsFrom s t 0 := by unfold fieldsL; rw [if_neg (by omega)]
  rw [hL] at hi ⊢
  obtain ⟨⟨a, b⟩, hp⟩ : ∃ p, (fieldsFrom s t 0)[i] = p := ⟨_, rfl⟩
  have hp2 : (fieldsFrom s t 0)[i]? = some (a, b) := by rw [List.getElem?_eq_getElem hi, hp]
  obtain ⟨x1, x2, x3⟩ := ff_at s t i 0 (a, b) (Nat.zero_le _) hp2
  simp only at x1 x2 x3
  refine ⟨a, b, hp2, x1, x2, fun k hk => ?_, fun h => ?_, fun h => ?_, ?_⟩
  · rw [tab_field s t h0 a (by omega)] at x3
    exact tab_in s t a (a + k) (by omega) (by omega) (by omega)
  · subst h
    rw [ff_pos s t 0 (Nat.zero_le _)] at hp2
    injection hp2 with e; injection e with e1 e2
    exact e1.symm
  · obtain ⟨j, rfl⟩ : ∃ j, i = j + 1 := ⟨i - 1, by omega⟩
    obtain ⟨⟨a', b'⟩, hq⟩ : ∃ p, (fieldsFrom s t 0)[j]'(by omega) = p := ⟨_, rfl⟩
    have hq2 : (fieldsFrom s t 0)[j]? = some (a', b') := by rw [List.getElem?_eq_getElem (by omega), hq]
    obtain ⟨y1, y2, y3⟩ := ff_at s t j 0 (a', b') (Nat.zero_le _) hq2
    simp only at y1 y2 y3
    have hn := ff_next s t j 0 (a', b') (a, b) (Nat.zero_le _) hq2 hp2
    simp only at hn
    have e : startTo (fieldsFrom s t 0) (j + 1) = b' := by rw [startTo_succ, hq2]; rfl
    rw [e]
    refine ⟨by omega, ?_, ?_⟩
    · rw [hn.2]; unfold nextN; rw [if_neg (by omega)]
    · rw [tab_field s t h0 a' (by omega)] at y3
      rw [y3]
      exact tab_at s t a' (by omega) (by rw [← y3]; omega)
  · rw [startTo_succ, hp2]; rfl
theorem ff_ge (s : ByteArray) (t : Int) : ∀ (n i : Nat) (p : Nat × Nat), i ≤ s.size → (fieldsFrom s t i)[n]? = some p → i + n ≤ p.1
  | 0, i, p, hi, h => by
    rw [ff_pos s t i hi] at h
    obtain rfl := Option.some.inj h
    exact Nat.le_refl _
  | n + 1, i, p, hi, h => by
    by_cases hb : behindN s t i = s.size
    · rw [fields_last s t i hb] at h; cases h
    · rw [fields_more s t i hi hb, List.getElem?_cons_succ] at h
      have h1 := ff_ge s t n _ p (cut_next_le s t i hi hb) h
      have h2 := behind_ge s t i hi
      have h3 := behind_le s t i hi
      have h4 : i + 1 ≤ nextN t (behindN s t i) := by
        unfold nextN
        split
        · rename_i ht
          have := behind_gt s t ht i (by
            rcases Nat.lt_or_ge i s.size with h5 | h5
            · exact h5
            · exfalso; apply hb; omega)
          omega
        · omega
      omega
theorem fields_ge (s : ByteArray) (t : Int) (i a b : Nat) (h : (fieldsL s t)[i]? = some (a, b)) : i ≤ a := by
  unfold fieldsL at h
  split at h
  · cases h
  · have := ff_ge s t i 0 (a, b) (Nat.zero_le _) h
    simpa using this
theorem fields_end (s : ByteArray) (t : Int) (h0 : 0 ≤ t) (h1 : t ≤ 255) : 0 < (fieldsL s t).length ∧ startTo (fieldsL s t) (fieldsL s t).length = s.size := by
  have hL : fieldsL s t = fieldsFrom s t 0 := by unfold fieldsL; rw [if_neg (by omega)]
  rw [hL]
  have hp := ff_pos s t 0 (Nat.zero_le _)
  have h2 : 0 < (fieldsFrom s t 0).length := (List.getElem?_eq_some_iff.1 hp).1
  refine ⟨h2, ?_⟩
  obtain ⟨j, hj⟩ : ∃ j, (fieldsFrom s t 0).length = j + 1 := ⟨(fieldsFrom s t 0).length - 1, by omega⟩
  rw [hj, startTo_succ]
  have hq : (fieldsFrom s t 0)[j]? = some ((fieldsFrom s t 0)[j]'(by omega)) := List.getElem?_eq_getElem (by omega)
  rw [hq]
  exact ff_last s t j 0 _ (Nat.zero_le _) hq (List.getElem?_eq_none (by omega))
/-- Without a separator: what field i is. -/
theorem blank_facts (s : ByteArray) (i : Nat) (hi : i < (fieldsL s (-1)).length) :
    ∃ a b c : Nat, (fieldsL s (-1))[i]? = some (a, b) ∧ a = startTo (fieldsL s (-1)) i ∧ a < b ∧ b ≤ s.size ∧ a ≤ c ∧ c ≤ b ∧ (∀ k : Nat, a ≤ k → k < c → isB s k = true) ∧ (∀ k : Nat, c ≤ k → k < b → isB s k = false) ∧ (0 < i → a < c) ∧ (i + 1 < (fieldsL s (-1)).length → c < b) ∧ startTo (fieldsL s (-1)) (i + 1) = b := by
  have hs0 : ¬ (s.size = 0) := by
    intro h
    have : fieldsL s (-1) = [] := by unfold fieldsL; rw [if_pos (.inr (.inr ⟨rfl, h⟩))]
    rw [this] at hi
    exact absurd hi (Nat.not_lt_zero _)
  have hL : fieldsL s (-1) = fieldsFrom s (-1) 0 := by unfold fieldsL; rw [if_neg (by omega)]
  rw [hL] at hi ⊢
  obtain ⟨⟨a, b⟩, hp⟩ : ∃ p, (fieldsFrom s (-1) 0)[i] = p := ⟨_, rfl⟩
  have hp2 : (fieldsFrom s (-1) 0)[i]? = some (a, b) := by rw [List.getElem?_eq_getElem hi, hp]
  obtain ⟨x1, x2, x3⟩ := ff_at s (-1) i 0 (a, b) (Nat.zero_le _) hp2
  simp only at x1 x2 x3
  have hst : a = startTo (fieldsFrom s (-1) 0) i ∧ a < s.size ∧ (0 < i → isB s a = true) := by
    rcases Nat.eq_zero_or_pos i with h | h
    · subst h
      rw [ff_pos s (-1) 0 (Nat.zero_le _)] at hp2
      injection hp2 with e; injection e with e1 e2
      exact ⟨e1.symm, by omega, fun h => absurd h (Nat.lt_irrefl _)⟩
    · obtain ⟨j, rfl⟩ : ∃ j, i = j + 1 := ⟨i - 1, by omega⟩
      obtain ⟨⟨a', b'⟩, hq⟩ : ∃ p, (fieldsFrom s (-1) 0)[j]'(by omega) = p := ⟨_, rfl⟩
      have hq2 : (fieldsFrom s (-1) 0)[j]? = some (a', b') := by rw [List.getElem?_eq_getElem (by omega), hq]
      obtain ⟨y1, y2, y3⟩ := ff_at s (-1) j 0 (a', b') (Nat.zero_le _) hq2
      have hn := ff_next s (-1) j 0 (a', b') (a, b) (Nat.zero_le _) hq2 hp2
      simp only at y1 y2 y3 hn
      have ha : a = b' := by rw [hn.2]; unfold nextN; rw [if_pos (by decide)]
      refine ⟨by rw [startTo_succ, hq2]; exact ha, by omega, fun _ => ?_⟩
      unfold behindN at y3
      rw [if_pos (by decide)] at y3
      have hle := skip_le s true a' (by omega)
      have := skip_at s false (skipTo s true a') hle (by omega)
      rw [← y3, ← ha] at this
      simpa using this
  have hb : b = skipTo s false (skipTo s true a) := by rw [x3]; unfold behindN; rw [if_pos (by decide)]
  have hc1 := skip_ge s true a (by omega)
  have hc2 := skip_le s true a (by omega)
  have hc3 := skip_ge s false (skipTo s true a) hc2
  refine ⟨a, b, skipTo s true a, hp2, hst.1, ?_, x2, hc1, by omega, fun k h1 h2 => skip_in s true a k (by omega) h1 h2, fun k h1 h2 => skip_in s false (skipTo s true a) k hc2 h1 (by omega), fun h => ?_, fun h => ?_, by rw [startTo_succ, hp2]; rfl⟩
  · have := behind_gt s (-1) (by decide) a hst.2.1
    omega
  · have h1 := hst.2.2 h
    rcases Nat.lt_or_ge a (skipTo s true a) with h2 | h2
    · exact h2
    · exfalso
      have e : skipTo s true a = a := by omega
      have := skip_at s true a (by omega) (by omega)
      rw [e] at this
      exact this h1
  · rcases Nat.lt_or_ge (skipTo s true a) b with h2 | h2
    · exact h2
    · exfalso
      have e : skipTo s true a = b := by omega
      have hn : (fieldsFrom s (-1) 0)[i + 1]? = some ((fieldsFrom s (-1) 0)[i + 1]'h) := List.getElem?_eq_getElem h
      have hne := (ff_next s (-1) i 0 (a, b) _ (Nat.zero_le _) hp2 hn).1
      simp only at hne
      have h3 := skip_at s true a (by omega) (by omega)
      have h4 : isB s (skipTo s true a) = false := by simpa using h3
      have h5 := skip_facts s false (s.size - skipTo s true a) (skipTo s true a) rfl hc2
      have h6 : skipTo s false (skipTo s true a) = skipTo s true a := by omega
      have h7 := skip_at s false (skipTo s true a) hc2 (by omega)
      rw [h6] at h7
      exact h7 h4
theorem blank_end (s : ByteArray) : startTo (fieldsL s (-1)) (fieldsL s (-1)).length = s.size := by
  by_cases hs0 : s.size = 0
  · have : fieldsL s (-1) = [] := by unfold fieldsL; rw [if_pos (.inr (.inr ⟨rfl, hs0⟩))]
    rw [this, hs0]; rfl
  · have hL : fieldsL s (-1) = fieldsFrom s (-1) 0 := by unfold fieldsL; rw [if_neg (by omega)]
    rw [hL]
    have hp := ff_pos s (-1) 0 (Nat.zero_le _)
    have h2 : 0 < (fieldsFrom s (-1) 0).length := (List.getElem?_eq_some_iff.1 hp).1
    obtain ⟨j, hj⟩ : ∃ j, (fieldsFrom s (-1) 0).length = j + 1 := ⟨(fieldsFrom s (-1) 0).length - 1, by omega⟩
    rw [hj, startTo_succ]
    have hq : (fieldsFrom s (-1) 0)[j]? = some ((fieldsFrom s (-1) 0)[j]'(by omega)) := List.getElem?_eq_getElem (by omega)
    rw [hq]
    exact ff_last s (-1) j 0 _ (Nat.zero_le _) hq (List.getElem?_eq_none (by omega))
theorem part_isB (s : ByteArray) (a b k : Nat) (h : a ≤ b) (hb : b ≤ s.size) (P : ByteArray) (hP : P = s.extract a b) (hk : k < P.size) : blank ((P[k].toNat : Nat) : Int) = isB s (a + k) := by
  have h1 : P.size = b - a := by rw [hP]; exact ext_size s a b h hb
  have h2 := ext_bt s a b k h hb (by omega)
  rw [← hP] at h2
  have h3 := bt_at P (k : Int) hk
  simp only [Int.toNat_natCast] at h3
  rw [h3, h2]; rfl
theorem blank_two (x : Nat) (h : blank (x : Int) = true) : ((x : Int) == 32) = true ∨ (((x : Int) == 32) = false ∧ ((x : Int) == 9) = true) := by
  unfold blank at h
  by_cases h1 : (x : Int) = 32
  · exact .inl (beq_iff_eq.mpr h1)
  · refine .inr ⟨beq_eq_false_iff_ne.mpr h1, ?_⟩
    cases h2 : ((x : Int) == 9)
    · rw [h2, beq_eq_false_iff_ne.mpr h1] at h; cases h
    · rfl
theorem blank_not (x : Nat) (h : blank (x : Int) = false) : ((x : Int) == 32) = false ∧ ((x : Int) == 9) = false := by
  unfold blank at h
  cases h1 : ((x : Int) == 9) <;> cases h2 : ((x : Int) == 32)
  · exact ⟨rfl, rfl⟩
  · rw [h1, h2] at h; cases h
  · rw [h1, h2] at h; cases h
  · rw [h1, h2] at h; cases h
theorem str_add (x y : ByteArray) (h : x.size + y.size ≤ 9223372036854775807) (W : World) : (Op.stringOp .add x y).run Try.prog W = .ok (.string (x ++ y)) W := by
  unfold Op.stringOp
  have e : IntKind.i64.max = 9223372036854775807 := rfl
  simp only [e]
  rw [if_neg (by omega)]
  rfl
theorem str_ne (x : ByteArray) : (x.toList == x.toList) = true := by simp
set_option maxHeartbeats 2000000 in
set_option maxRecDepth 100000 in
theorem cut_walk (s : ByteArray) (hs : s.size ≤ 1048576) (tn : Nat) (ht : tn < 256) (w : World) :
    Calls Try.prog 4 #[.string s, .int .u8 (tn : Int)] w fun e w' => e = .returned (.bool true) ∧ Below w.heap.size w w' := by
  have hu := Try.underlying27
  have HF := Aside0.mk (fun W => fields_calls s hs (tn : Int) W)
  have HF2 := Aside0.mk (fun W => fields_calls s hs (-1) W)
  have hwr : IntKind.i64.wrap (tn : Int) = (tn : Int) := by rw [IntKind.wrap_i64]; omega
  go_enter Try.func4, Try.ntmps4
  go_upto_region 3 with (first
    | (go_at_call 6; refine Calls.mono (HF.out _) ?_; rintro e w1 ⟨A, c, rfl, hC, hb1⟩; have HC := Aside0.mk hC; have HB := Aside0.mk hb1; clear hb1 hC HF))
  have HL := Aside0.mk (field_facts s (tn : Int) (by omega) (by omega))
  have HE0 : Aside0 ((⟨#[]⟩ : ByteArray) = s.extract 0 (startTo (fieldsL s (tn : Int)) 0)) := ⟨by
    apply ByteArray.ext
    apply Array.toList_inj.1
    rw [ByteArray.data_extract, Array.toList_extract, List.extract_eq_take_drop]
    rfl⟩
  have HW : Aside0 (Below w1.heap.size w1 w1) := ⟨Below.refl _ _⟩
  go_wp2
  go_loopw [6, 7] (fun v6 v7 wr => ∃ (i : Nat) (S : ByteArray), v6 = .string S ∧ v7 = .int .i64 i ∧ i ≤ (fieldsL s (tn : Int)).length ∧ Aside0 (S = s.extract 0 (startTo (fieldsL s (tn : Int)) i)) ∧ Aside0 (Below w1.heap.size w1 wr)) (fun _ v7 _ => (fieldsL s (tn : Int)).length - (intOf v7).toNat)
  case atStart => exact ⟨0, ⟨#[]⟩, rfl, rfl, Nat.zero_le _, HE0, HW⟩
  case round =>
    clear HE0 HW
    obtain ⟨i, S, rfl, rfl, hi, HS, HW⟩ := hrel
    by_cases hlt : i < (fieldsL s (tn : Int)).length
    · have HLT := Aside0.mk hlt
      obtain ⟨a, b, hab, y1, y2, y3, y4, y5, y6⟩ := HL.out i hlt
      have hia : i ≤ 1048576 := by have := fields_ge s _ i a b hab; omega
      obtain ⟨ad, rfl, x0, x1⟩ := at_T27 HC.out (i : Int) (by omega) (by omega)
      have hrd : rd_T27 (spans (fieldsL s (tn : Int))) (i : Int) = ⟨(a : Int), (b : Int)⟩ := by
        simp [rd_T27, spans, hab, spanOf]
      rw [hrd] at x0 x1
      simp only [Int.toNat_natCast] at x0 x1
      have u0 := ccell HW.out x0
      have u1 := ccell HW.out x1
      clear x0 x1 hrd
      have hd : decide (i < (fieldsL s (tn : Int)).length) = true := decide_eq_true hlt
      have h0 : decide ((a : Int) < 0) = false := decide_eq_false (by omega)
      have h1 : decide ((b : Int) < (a : Int)) = false := decide_eq_false (by omega)
      have h2 : decide ((s.size : Int) < (b : Int)) = false := decide_eq_false (by omega)
      have h1n : decide (b < a) = false := decide_eq_false (by omega)
      have h2n : decide (s.size < b) = false := decide_eq_false (by omega)
      have Y := Aside0.mk (show a ≤ b ∧ b ≤ s.size ∧ (∀ k : Nat, k < b - a → bt s ((a + k : Nat) : Int) ≠ (tn : Int)) ∧ (i = 0 → a = 0) ∧ (0 < i → startTo (fieldsL s (tn : Int)) i < s.size ∧ a = startTo (fieldsL s (tn : Int)) i + 1 ∧ bt s ((startTo (fieldsL s (tn : Int)) i : Nat) : Int) = (tn : Int)) ∧ startTo (fieldsL s (tn : Int)) (i + 1) = b from ⟨y1, y2, y3, y4, y5, y6⟩)
      clear y1 y2 y3 y4 y5 y6 hab
      generalize (fieldsL s (tn : Int)).length = n at *
      go_wp2
      go_region_held3 (fun w' => w'.cell? (ad.add (i * 2)) = some (.int .i64 (a : Int)) ∧ w'.cell? ⟨(ad.add (i * 2)).block, (ad.add (i * 2)).off + 1, none⟩ = some (.int .i64 (b : Int))) (exact ⟨u0, u1⟩) (fail)
      replace HW : Aside0 (Below w1.heap.size w1 wr.drew) := ⟨HW.out.drew⟩
      obtain ⟨W6, hW6⟩ : ∃ W6 : World, W6 = wr.drew := ⟨_, rfl⟩
      have v0 : W6.cell? (ad.add (i * 2)) = some (.int .i64 (a : Int)) := by rw [hW6]; exact u0
      have v1 : W6.cell? ⟨(ad.add (i * 2)).block, (ad.add (i * 2)).off + 1, none⟩ = some (.int .i64 (b : Int)) := by rw [hW6]; exact u1
      rw [← hW6] at HW ⊢
      have U0 := Aside0.mk v0
      have U1 := Aside0.mk v1
      clear hW6 u0 u1 v0 v1 h0 h1 h2 h1n h2n
      go_upto_if 55 with (fail)
      go_cut [6] (fun v6 wc => v6 = .string (s.extract 0 a) ∧ Aside0 (Below W6.heap.size W6 wc))
      case first =>
        by_cases hz : i = 0
        · have hg : decide (0 < i) = false := decide_eq_false (by omega)
          have ha := Y.out.2.2.2.1 hz
          subst hz
          go_wp2
          go_meet
          case rel => exact ⟨by rw [HS.out, ha]; rfl, ⟨Below.refl _ _⟩⟩
        · have hg : decide (0 < i) = true := decide_eq_true (by omega)
          obtain ⟨z1, z2, z3⟩ := Y.out.2.2.2.2.1 (by omega)
          have hj : S ++ strOfNums [(tn : Int)] = s.extract 0 a := by
            rw [HS.out, ← ext_byte s _ z1 tn ht z3, ext_join s _ _ (by omega) (by omega), z2]
          have hsz : S.size ≤ 1048576 := by rw [HS.out, ByteArray.size_extract]; omega
          have HJ := Aside0.mk hj
          have hcv := run_convert_bytes_arg (P := Try.prog) (W6.alloc (.cells #[.int .u8 (tn : Int)] 5)) 28 5 Try.underlying28 Try.underlying5 W6.heap.size 0 1 1 [(tn : Int)] rfl (fun j hj => by
            have hj0 : j = 0 := by omega
            subst hj0
            rw [cell_of_row _ _ _ _ _ _ (heap_alloc_new _ _)]; rfl) 9 Try.underlying9
          have hadd := fun W => str_add S (strOfNums [(tn : Int)]) (by rw [strOfNums_size]; simp; omega) W
          clear z1 z2 z3 hj
          go_wp2
          go_meet
          case rel => exact ⟨by rw [HJ.out], ⟨(Below.refl _ _).alloc (Nat.le_refl _) _⟩⟩
      case rest =>
        obtain ⟨rfl, HX⟩ := hcut
        have u0 := ccell HX.out U0.out
        have u1 := ccell HX.out U1.out
        have y1 := Y.out.1
        have y2 := Y.out.2.1
        replace HW := Aside0.mk (cbstep HW.out HX.out)
        clear HX U0 U1 HS
        go_wp2
        go_region_held3 (fun w' => w'.cell? (ad.add (i * 2)) = some (.int .i64 (a : Int)) ∧ w'.cell? ⟨(ad.add (i * 2)).block, (ad.add (i * 2)).off + 1, none⟩ = some (.int .i64 (b : Int))) (exact ⟨u0, u1⟩) (fail)
        replace HW : Aside0 (Below w1.heap.size w1 wc.drew) := ⟨HW.out.drew⟩
        obtain ⟨P, hP⟩ : ∃ P : ByteArray, P = s.extract a b := ⟨_, rfl⟩
        have hPs : P.size = b - a := by rw [hP]; exact ext_size s a b y1 y2
        have HPb : Aside0 (∀ k : Nat, k < P.size → bt P (k : Int) ≠ (tn : Int)) := ⟨fun k hk => by
          rw [hP, ext_bt s a b k y1 y2 (by omega)]
          exact Y.out.2.2.1 k (by omega)⟩
        have HPj : Aside0 (s.extract 0 a ++ P = s.extract 0 b) := ⟨by rw [hP]; exact ext_join s a b y1 y2⟩
        have hPm : P.size ≤ 1048576 := by omega
        have HPS := Aside0.mk hPs
        first
          | rw [← hP]
          | (simp only [Int.toNat_natCast]; rw [← hP])
        clear hP hPs u0 u1
        go_wp2
        go_loopw [9] (fun v9 wi => ∃ k : Nat, v9 = .int .i64 k ∧ k ≤ P.size ∧ Aside0 (Below w1.heap.size w1 wi)) (fun v9 _ => P.size - (intOf v9).toNat)
        case atStart => exact ⟨0, rfl, Nat.zero_le _, HW⟩
        case round =>
          clear HW
          obtain ⟨k, rfl, hk, HW⟩ := hrel
          by_cases hkt : k < P.size
          · have hkd : decide (k < P.size) = true := decide_eq_true hkt
            have HKT := Aside0.mk hkt
            have hne := HPb.out k hkt
            rw [← bt_at P (k : Int) hkt] at hne
            have hq : (P[k].toNat == tn) = false := by
              apply beq_eq_false_iff_ne.mpr
              intro e
              apply hne
              simp only [Int.toNat_natCast]
              omega
            clear hne
            go_wp2
            exact ⟨⟨k + 1, by go_num, HKT.out, HW⟩, by simp [intOf]; omega⟩
          · have hkd : decide (k < P.size) = false := decide_eq_false hkt
            have hadd := fun W => str_add (s.extract 0 a) P (by rw [ByteArray.size_extract]; omega) W
            go_wp2
            exact ⟨⟨i + 1, _, rfl, by go_num, HLT.out, ⟨by rw [HPj.out, Y.out.2.2.2.2.2]⟩, HW⟩, by have := HLT.out; simp [intOf]; omega⟩
    · have hge : i = (fieldsL s (tn : Int)).length := by omega
      have hd : decide (i < (fieldsL s (tn : Int)).length) = false := decide_eq_false hlt
      obtain ⟨e1, e2⟩ := fields_end s (tn : Int) (by omega) (by omega)
      have hS : S = s := by rw [HS.out, hge, e2, ext_full]
      subst hS
      have hn0 : ((fieldsL S (tn : Int)).length == 0) = false := beq_eq_false_iff_ne.mpr (by omega)
      have hse := str_ne S
      clear HL HS hlt hi
      subst hge
      clear e1 e2
      generalize (fieldsL S (tn : Int)).length = n at *
      go_upto_region 20 with (first
        | (go_at_call 6; refine Calls.mono (HF2.out _) ?_; rintro e w2 ⟨A2, c2, rfl, hC2, hb2⟩; have HC2 := Aside0.mk hC2; have HB2 : Aside0 (Below w.heap.size w w2) := ⟨cbstep (cbstep HB.out HW.out) hb2⟩; clear hb2 hC2 HF2))
      have HL2 := Aside0.mk (blank_facts S)
      have HE2 := Aside0.mk (blank_end S)
      have HW2 : Aside0 (Below w2.heap.size w2 w2) := ⟨Below.refl _ _⟩
      have HGE := Aside0.mk (fun (i a b : Nat) (h : (fieldsL S (-1))[i]? = some (a, b)) => fields_ge S (-1) i a b h)
      go_wp2
      go_loopw [11, 12] (fun v11 v12 wr => ∃ i : Nat, v11 = .int .i64 (startTo (fieldsL S (-1)) i : Nat) ∧ v12 = .int .i64 i ∧ i ≤ (fieldsL S (-1)).length ∧ Aside0 (Below w2.heap.size w2 wr)) (fun _ v12 _ => (fieldsL S (-1)).length - (intOf v12).toNat)
      case atStart => exact ⟨0, rfl, rfl, Nat.zero_le _, HW2⟩
      case round =>
        clear HW2
        obtain ⟨i, rfl, rfl, hi, HW2⟩ := hrel
        by_cases hlt : i < (fieldsL S (-1)).length
        · have HLT := Aside0.mk hlt
          obtain ⟨a, b, c3, hab, y1, y2, y3, y4, y5, y6, y7, y8, y9, y10⟩ := HL2.out i hlt
          have hia : i ≤ 1048576 := by have := HGE.out i a b hab; omega
          obtain ⟨ad2, rfl, x0, x1⟩ := at_T27 HC2.out (i : Int) (by omega) (by omega)
          have hrd : rd_T27 (spans (fieldsL S (-1))) (i : Int) = ⟨(a : Int), (b : Int)⟩ := by
            simp [rd_T27, spans, hab, spanOf]
          rw [hrd] at x0 x1
          simp only [Int.toNat_natCast] at x0 x1
          have u0 := ccell HW2.out x0
          have u1 := ccell HW2.out x1
          have XB := Aside0.mk x1
          clear x0 x1 hrd hab
          rw [← y1]
          have hd : decide (i < (fieldsL S (-1)).length) = true := decide_eq_true hlt
          have h1n : decide (b ≤ a) = false := decide_eq_false (by omega)
          have h2n : decide (S.size < b) = false := decide_eq_false (by omega)
          have Y10 := Aside0.mk y10
          have Y8 := Aside0.mk y8
          have Y9 := Aside0.mk y9
          have HB67 := Aside0.mk (And.intro y6 y7)
          clear y1 y6 y7 y8 y9 y10
          have hab2 : a ≤ b := by omega
          generalize (fieldsL S (-1)).length = n2 at *
          have X1 := XB
          go_upto_region 27 with (fail)
          obtain ⟨P, hP⟩ : ∃ P : ByteArray, P = S.extract a b := ⟨_, rfl⟩
          have hPs : P.size = b - a := by rw [hP]; exact ext_size S a b hab2 y3
          have HPa : Aside0 (∀ k : Nat, ∀ h : k < P.size, k < c3 - a → blank ((P[k].toNat : Nat) : Int) = true) := ⟨fun k h hk => by rw [part_isB S a b k hab2 y3 P hP h]; exact HB67.out.1 (a + k) (by omega) (by omega)⟩
          have HPn : Aside0 (∀ k : Nat, ∀ h : k < P.size, c3 - a ≤ k → blank ((P[k].toNat : Nat) : Int) = false) := ⟨fun k h hk => by rw [part_isB S a b k hab2 y3 P hP h]; exact HB67.out.2 (a + k) (by omega) (by omega)⟩
          rw [← hP]
          have hdP : c3 - a ≤ P.size := by omega
          have H8 : Aside0 (0 < i → 0 < c3 - a) := ⟨fun h => by have := Y8.out h; omega⟩
          have H9 : Aside0 (i + 1 < n2 → c3 - a < P.size) := ⟨fun h => by have := Y9.out h; omega⟩
          have hPm : P.size ≤ 1048576 := by omega
          clear hP hPs HB67 Y8 Y9 y4 y5
          generalize c3 - a = dd at *
          clear u0 u1
          go_wp2
          go_loopw [14] (fun v14 wi => ∃ k : Nat, v14 = .int .i64 k ∧ k ≤ dd ∧ Aside0 (Below w2.heap.size w2 wi)) (fun v14 _ => dd - (intOf v14).toNat)
          case atStart => exact ⟨0, rfl, Nat.zero_le _, HW2⟩
          case round =>
            clear HW2
            obtain ⟨k, rfl, hk, HW2⟩ := hrel
            by_cases hkt : k < dd
            · have hkp : k < P.size := by omega
              have hkd : decide (k < P.size) = true := decide_eq_true hkp
              have HKT := Aside0.mk hkt
              rcases blank_two _ (HPa.out k hkp hkt) with hq | ⟨hq, hq2⟩
              all_goals
                go_wp2
                exact ⟨⟨k + 1, by go_num, HKT.out, HW2⟩, by simp [intOf]; omega⟩
            · have hke : k = dd := by omega
              subst hke
              clear hkt hk
              have g0 : i = 0 ∨ 0 < i := by omega
              have hkk : k < P.size ∨ (k = P.size ∧ ¬ i + 1 < n2) := by
                rcases Nat.lt_or_ge k P.size with h | h
                · exact .inl h
                · exact .inr ⟨by omega, fun h2 => by have := H9.out h2; omega⟩
              have g9 : i + 1 < n2 ∨ ¬ i + 1 < n2 := by omega
              have hfacts : (k < P.size → (decide (k < P.size) = true ∧ (∃ h : k < P.size, ((P[k].toNat : Int) == 32) = false ∧ ((P[k].toNat : Int) == 9) = false) ∧ ((k : Int) == (P.size : Int)) = false)) := fun h => ⟨decide_eq_true h, ⟨h, blank_not _ (HPn.out k h (Nat.le_refl _))⟩, beq_eq_false_iff_ne.mpr (by omega)⟩
              have hz : 0 < i → ((k : Int) == 0) = false := fun h => beq_eq_false_iff_ne.mpr (by have := H8.out h; omega)
              clear H8 H9 HPa
              rcases g0 with g0 | g0
              · rcases hkk with hkk | hkk
                · rcases g9 with g9 | g9
                  · have g1 : decide (0 < i) = false := decide_eq_false (by omega)
                    obtain ⟨hk1, ⟨hk2, hk3, hk4⟩, hk5⟩ := hfacts hkk
                    have g2 : decide ((i : Int) + 1 < (n2 : Int)) = true := decide_eq_true (by omega)
                    clear hz hfacts g0 g9
                    go_wp2
                    go_loopw [14] (fun v14 wi => ∃ q : Nat, v14 = .int .i64 q ∧ k ≤ q ∧ q ≤ P.size ∧ Aside0 (Below w2.heap.size w2 wi)) (fun v14 _ => P.size - (intOf v14).toNat)
                    case atStart => exact ⟨k, rfl, Nat.le_refl _, by first | omega | exact HKE.out, HW2⟩
                    case round =>
                      clear HW2
                      obtain ⟨q, rfl, hq1, hq2, HW2⟩ := hrel
                      by_cases hqt : q < P.size
                      · have hqd : decide (q < P.size) = true := decide_eq_true hqt
                        have HQT := Aside0.mk hqt
                        have HQ1 := Aside0.mk hq1
                        obtain ⟨hn1, hn2⟩ := blank_not _ (HPn.out q hqt hq1)
                        clear hq1
                        go_wp2
                        exact ⟨⟨q + 1, by go_num, by have := HQ1.out; omega, HQT.out, HW2⟩, by simp [intOf]; omega⟩
                      · have hqd : decide (q < P.size) = false := decide_eq_false hqt
                        have u1 := ccell HW2.out X1.out
                        go_wp2
                        exact ⟨⟨i + 1, by rw [Y10.out], by go_num, HLT.out, HW2⟩, by have := HLT.out; simp [intOf]; omega⟩
                  · have g1 : decide (0 < i) = false := decide_eq_false (by omega)
                    obtain ⟨hk1, ⟨hk2, hk3, hk4⟩, hk5⟩ := hfacts hkk
                    have g2 : decide ((i : Int) + 1 < (n2 : Int)) = false := decide_eq_false (by omega)
                    clear hz hfacts g0 g9
                    go_wp2
                    go_loopw [14] (fun v14 wi => ∃ q : Nat, v14 = .int .i64 q ∧ k ≤ q ∧ q ≤ P.size ∧ Aside0 (Below w2.heap.size w2 wi)) (fun v14 _ => P.size - (intOf v14).toNat)
                    case atStart => exact ⟨k, rfl, Nat.le_refl _, by first | omega | exact HKE.out, HW2⟩
                    case round =>
                      clear HW2
                      obtain ⟨q, rfl, hq1, hq2, HW2⟩ := hrel
                      by_cases hqt : q < P.size
                      · have hqd : decide (q < P.size) = true := decide_eq_true hqt
                        have HQT := Aside0.mk hqt
                        have HQ1 := Aside0.mk hq1
                        obtain ⟨hn1, hn2⟩ := blank_not _ (HPn.out q hqt hq1)
                        clear hq1
                        go_wp2
                        exact ⟨⟨q + 1, by go_num, by have := HQ1.out; omega, HQT.out, HW2⟩, by simp [intOf]; omega⟩
                      · have hqd : decide (q < P.size) = false := decide_eq_false hqt
                        have u1 := ccell HW2.out X1.out
                        go_wp2
                        exact ⟨⟨i + 1, by rw [Y10.out], by go_num, HLT.out, HW2⟩, by have := HLT.out; simp [intOf]; omega⟩
                · have g1 : decide (0 < i) = false := decide_eq_false (by omega)
                  obtain ⟨hke, hnn⟩ := hkk
                  have hk1 : decide (k < P.size) = false := decide_eq_false (by omega)
                  have HKE := Aside0.mk (show k ≤ P.size from by omega)
                  clear hke
                  have g2 : decide ((i : Int) + 1 < (n2 : Int)) = false := decide_eq_false (by omega)
                  clear hz hfacts g0 hnn g9
                  go_wp2
                  go_loopw [14] (fun v14 wi => ∃ q : Nat, v14 = .int .i64 q ∧ k ≤ q ∧ q ≤ P.size ∧ Aside0 (Below w2.heap.size w2 wi)) (fun v14 _ => P.size - (intOf v14).toNat)
                  case atStart => exact ⟨k, rfl, Nat.le_refl _, by first | omega | exact HKE.out, HW2⟩
                  case round =>
                    clear HW2
                    obtain ⟨q, rfl, hq1, hq2, HW2⟩ := hrel
                    by_cases hqt : q < P.size
                    · have hqd : decide (q < P.size) = true := decide_eq_true hqt
                      have HQT := Aside0.mk hqt
                      have HQ1 := Aside0.mk hq1
                      obtain ⟨hn1, hn2⟩ := blank_not _ (HPn.out q hqt hq1)
                      clear hq1
                      go_wp2
                      exact ⟨⟨q + 1, by go_num, by have := HQ1.out; omega, HQT.out, HW2⟩, by simp [intOf]; omega⟩
                    · have hqd : decide (q < P.size) = false := decide_eq_false hqt
                      have u1 := ccell HW2.out X1.out
                      go_wp2
                      exact ⟨⟨i + 1, by rw [Y10.out], by go_num, HLT.out, HW2⟩, by have := HLT.out; simp [intOf]; omega⟩
              · rcases hkk with hkk | hkk
                · rcases g9 with g9 | g9
                  · have g1 : decide (0 < i) = true := decide_eq_true g0
                    have hz2 := hz g0
                    obtain ⟨hk1, ⟨hk2, hk3, hk4⟩, hk5⟩ := hfacts hkk
                    have g2 : decide ((i : Int) + 1 < (n2 : Int)) = true := decide_eq_true (by omega)
                    clear hz hfacts g0 g9
                    go_wp2
                    go_loopw [14] (fun v14 wi => ∃ q : Nat, v14 = .int .i64 q ∧ k ≤ q ∧ q ≤ P.size ∧ Aside0 (Below w2.heap.size w2 wi)) (fun v14 _ => P.size - (intOf v14).toNat)
                    case atStart => exact ⟨k, rfl, Nat.le_refl _, by first | omega | exact HKE.out, HW2⟩
                    case round =>
                      clear HW2
                      obtain ⟨q, rfl, hq1, hq2, HW2⟩ := hrel
                      by_cases hqt : q < P.size
                      · have hqd : decide (q < P.size) = true := decide_eq_true hqt
                        have HQT := Aside0.mk hqt
                        have HQ1 := Aside0.mk hq1
                        obtain ⟨hn1, hn2⟩ := blank_not _ (HPn.out q hqt hq1)
                        clear hq1
                        go_wp2
                        exact ⟨⟨q + 1, by go_num, by have := HQ1.out; omega, HQT.out, HW2⟩, by simp [intOf]; omega⟩
                      · have hqd : decide (q < P.size) = false := decide_eq_false hqt
                        have u1 := ccell HW2.out X1.out
                        go_wp2
                        exact ⟨⟨i + 1, by rw [Y10.out], by go_num, HLT.out, HW2⟩, by have := HLT.out; simp [intOf]; omega⟩
                  · have g1 : decide (0 < i) = true := decide_eq_true g0
                    have hz2 := hz g0
                    obtain ⟨hk1, ⟨hk2, hk3, hk4⟩, hk5⟩ := hfacts hkk
                    have g2 : decide ((i : Int) + 1 < (n2 : Int)) = false := decide_eq_false (by omega)
                    clear hz hfacts g0 g9
                    go_wp2
                    go_loopw [14] (fun v14 wi => ∃ q : Nat, v14 = .int .i64 q ∧ k ≤ q ∧ q ≤ P.size ∧ Aside0 (Below w2.heap.size w2 wi)) (fun v14 _ => P.size - (intOf v14).toNat)
                    case atStart => exact ⟨k, rfl, Nat.le_refl _, by first | omega | exact HKE.out, HW2⟩
                    case round =>
                      clear HW2
                      obtain ⟨q, rfl, hq1, hq2, HW2⟩ := hrel
                      by_cases hqt : q < P.size
                      · have hqd : decide (q < P.size) = true := decide_eq_true hqt
                        have HQT := Aside0.mk hqt
                        have HQ1 := Aside0.mk hq1
                        obtain ⟨hn1, hn2⟩ := blank_not _ (HPn.out q hqt hq1)
                        clear hq1
                        go_wp2
                        exact ⟨⟨q + 1, by go_num, by have := HQ1.out; omega, HQT.out, HW2⟩, by simp [intOf]; omega⟩
                      · have hqd : decide (q < P.size) = false := decide_eq_false hqt
                        have u1 := ccell HW2.out X1.out
                        go_wp2
                        exact ⟨⟨i + 1, by rw [Y10.out], by go_num, HLT.out, HW2⟩, by have := HLT.out; simp [intOf]; omega⟩
                · have g1 : decide (0 < i) = true := decide_eq_true g0
                  have hz2 := hz g0
                  obtain ⟨hke, hnn⟩ := hkk
                  have hk1 : decide (k < P.size) = false := decide_eq_false (by omega)
                  have HKE := Aside0.mk (show k ≤ P.size from by omega)
                  clear hke
                  have g2 : decide ((i : Int) + 1 < (n2 : Int)) = false := decide_eq_false (by omega)
                  clear hz hfacts g0 hnn g9
                  go_wp2
                  go_loopw [14] (fun v14 wi => ∃ q : Nat, v14 = .int .i64 q ∧ k ≤ q ∧ q ≤ P.size ∧ Aside0 (Below w2.heap.size w2 wi)) (fun v14 _ => P.size - (intOf v14).toNat)
                  case atStart => exact ⟨k, rfl, Nat.le_refl _, by first | omega | exact HKE.out, HW2⟩
                  case round =>
                    clear HW2
                    obtain ⟨q, rfl, hq1, hq2, HW2⟩ := hrel
                    by_cases hqt : q < P.size
                    · have hqd : decide (q < P.size) = true := decide_eq_true hqt
                      have HQT := Aside0.mk hqt
                      have HQ1 := Aside0.mk hq1
                      obtain ⟨hn1, hn2⟩ := blank_not _ (HPn.out q hqt hq1)
                      clear hq1
                      go_wp2
                      exact ⟨⟨q + 1, by go_num, by have := HQ1.out; omega, HQT.out, HW2⟩, by simp [intOf]; omega⟩
                    · have hqd : decide (q < P.size) = false := decide_eq_false hqt
                      have u1 := ccell HW2.out X1.out
                      go_wp2
                      exact ⟨⟨i + 1, by rw [Y10.out], by go_num, HLT.out, HW2⟩, by have := HLT.out; simp [intOf]; omega⟩
        · have hd : decide (i < (fieldsL S (-1)).length) = false := decide_eq_false hlt
          have hge : i = (fieldsL S (-1)).length := by omega
          have he : ((startTo (fieldsL S (-1)) i : Nat) : Int) = (S.size : Int) := by rw [hge, HE2.out]
          rw [he]
          clear he
          go_wp2
          go_ret
          exact ⟨rfl, cbstep HB2.out HW2.out⟩
end Go.Proofs.Ytnnoegjgaelafaa.Pr
