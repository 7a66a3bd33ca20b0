/- The document's Fields answers fieldsL; the program's behind and skip. (Of FieldsEq, for the seat at which Fields of the program is not reached.) Where a field begins: the program's way and the list of the fields. Pure. The document's answers of one key: what is shaped is right, what goes together goes together. Pure. The document's begin and Span, as plain functions of the places. Pure. The program's way to a key's part of a line is the document's. Pure. Written by a program of this session (a turned copy of the kit's printer): the functions that a law reaches, as Lean functions, and their contracts. -/
import Derived.ShutString
import Derived.Test.YtnnoegjgaelafaaDoorQWholeAi
import Derived.Test.YtnnoegjgaelafaaDoorQWholeAb
import Derived.Test.YtnnoegjgaelafaaDoorQWholeAw
import Derived.Test.YtnnoegjgaelafaaDoorQWholeAx
import Derived.Test.YtnnoegjgaelafaaDoorQWholeAy
namespace Go.Proofs.YtnnoegjgaelafaaDoor.Pr
open Go.RowKit Go.Proofs.YtnnoegjgaelafaaDoorW.PrintWords Go.Proofs.YtnnoegjgaelafaaDoorW.PrintLast
set_option linter.unusedVariables false

theorem wrap64_id {x : Int} (h0 : 0 ≤ x) (h1 : x ≤ 140737488351240) : wrap64 x = x := by
  unfold wrap64; omega

theorem skip_some (s : ByteArray) (hs : s.size ≤ 140737488351232) (b : Bool) (i : Nat) (hi : i ≤ s.size) : collate_skip.f s (i : Int) 1 b = some ((skipTo s b i : Nat) : Int) := by
  unfold collate_skip.f
  rw [if_pos ⟨hs, by omega, by omega, rfl⟩]
  rfl
theorem behind_some (s : ByteArray) (hs : s.size ≤ 140737488351232) (t : Int) (ht : t ≤ 255) (i : Nat) (hi : i ≤ s.size) : collate_behind.f s (i : Int) t = some ((behindN s t i : Nat) : Int) := by
  unfold collate_behind.f behindN
  by_cases h : t < 0
  · rw [if_pos h, if_pos h, skip_some s hs true i hi, Option.bind_some, skip_some s hs false _ (skip_le s true i hi), Option.bind_some]
  · rw [if_neg h, if_neg h, if_pos (by omega), if_pos (by omega)]
    unfold strings_IndexByte.f
    rw [Option.bind_some, Int.toNat_natCast, index_tab s t (by omega) ht i hi]
    have h1 := tab_ge s t i hi
    have h2 := tab_le s t i hi
    by_cases hl : tabTo s t i < s.size
    · rw [if_pos hl, if_pos (by omega), wrap64_id (by omega) (by omega)]
      congr 1; omega
    · rw [if_neg hl, if_neg (by omega)]
      congr 1; omega

end Go.Proofs.YtnnoegjgaelafaaDoor.Pr
namespace Go.Proofs.YtnnoegjgaelafaaDoor.Pr
open Go.RowKit Go.Proofs.YtnnoegjgaelafaaDoorW.PrintWords Go.Proofs.YtnnoegjgaelafaaDoorW.PrintLast
set_option linter.unusedVariables false

/-- The place n fields behind i, and whether it is there. -/
def placeFrom (s : ByteArray) (t : Int) (i : Nat) : Nat → Nat × Bool
  | 0 => (i, true)
  | n + 1 => if behindN s t i = s.size then (s.size, false) else placeFrom s t (nextN t (behindN s t i)) n
theorem next_le (s : ByteArray) (t : Int) (i : Nat) (hi : i ≤ s.size) (h : behindN s t i ≠ s.size) : nextN t (behindN s t i) ≤ s.size := by
  have := behind_le s t i hi
  unfold nextN; split <;> omega
theorem place_le (s : ByteArray) (t : Int) : ∀ (n i : Nat), i ≤ s.size → (placeFrom s t i n).1 ≤ s.size
  | 0, i, hi => hi
  | n + 1, i, hi => by
    unfold placeFrom
    split
    · exact Nat.le_refl _
    · rename_i h; exact place_le s t n _ (next_le s t i hi h)
theorem field_loop (s : ByteArray) (hs : s.size ≤ 1048576) (t : Int) (ht : t ≤ 255) : ∀ (n : Nat) (N : Int) (i : Nat) (j : Int), N - j = (n : Int) → 0 ≤ j → N ≤ 2147483647 → i ≤ s.size →
    Ev (fun k => collate_field.l0 k s t (i : Int) N j) (((placeFrom s t i n).1 : Nat), (placeFrom s t i n).2)
  | 0, N, i, j, hn, hj, hN, hi => by
    refine Ev.step (f := fun _ => some ((i : Int), true)) (fun k => by rw [collate_field.l0, if_neg (by omega)]) ?_
    exact Ev.now _
  | n + 1, N, i, j, hn, hj, hN, hi => by
    have hb := behind_some s (by omega) t ht i hi
    have hle := behind_le s t i hi
    by_cases h : behindN s t i = s.size
    · refine Ev.step (f := fun _ => some ((s.size : Int), false)) (fun k => by rw [collate_field.l0, if_pos (by omega), hb, Option.bind_some, h, if_pos rfl]) ?_
      unfold placeFrom; rw [if_pos h]
      exact Ev.now _
    · have hne : ¬ ((behindN s t i : Nat) : Int) = (s.size : Int) := by omega
      have hw := wrap64_id (x := j + 1) (by omega) (by omega)
      have hw2 := wrap64_id (x := ((behindN s t i : Nat) : Int) + 1) (by omega) (by omega)
      have ih := field_loop s hs t ht n N (nextN t (behindN s t i)) (j + 1) (by omega) (by omega) hN (next_le s t i hi h)
      refine Ev.step (f := fun k => collate_field.l0 k s t ((nextN t (behindN s t i) : Nat) : Int) N (j + 1)) (fun k => by
        rw [collate_field.l0, if_pos (by omega), hb, Option.bind_some, if_neg hne, hw, hw2]
        unfold nextN
        by_cases h0 : t < 0
        · rw [if_neg (by omega), if_pos h0]
        · rw [if_pos (by omega), if_neg h0]; rfl) ?_
      unfold placeFrom; rw [if_neg h]
      exact ih
theorem field_prog (s : ByteArray) (hs : s.size ≤ 1048576) (t : Int) (ht : t ≤ 255) (n : Int) (h1 : 1 ≤ n) (h2 : n ≤ 2147483647) :
    Ev (fun k => collate_field.f k s n t) (((placeFrom s t 0 (n - 1).toNat).1 : Nat), (placeFrom s t 0 (n - 1).toNat).2) := by
  have hw := wrap64_id (x := n - 1) (by omega) (by omega)
  have := field_loop s hs t ht (n - 1).toNat (n - 1) 0 0 (by omega) (by omega) (by omega) (Nat.zero_le _)
  refine Ev.congr (fun k => ?_) this
  rw [collate_field.f, hw]; rfl
end Go.Proofs.YtnnoegjgaelafaaDoor.Pr
namespace Go.Proofs.YtnnoegjgaelafaaDoor.Pr
open Go.RowKit Go.Proofs.YtnnoegjgaelafaaDoorW.PrintWords Go.Proofs.YtnnoegjgaelafaaDoorW.PrintLast
set_option linter.unusedVariables false
set_option linter.unusedSimpArgs false

theorem wrap_small (x : Int) (h0 : 0 ≤ x) (h1 : x < 65536) : wrap64 x = x := by simp only [wrap64]; first | omega | (rw [IntKind.wrap_i64]; omega)
set_option maxHeartbeats 4000000 in
theorem shaped_right (k : Ky) (n : Nat) (hn : k.f4 = (n : Int)) (h : n < 65536) : millref5_shaped.f 3 k.f0 k.f1 k.f2 k.f3 k.f4 k.f5 = some (rightB k) := by
  have e := right_some k
  rw [← e, hn]
  have ha := and_small n h
  have hw := wrap_small (n : Int) (by omega) (by omega)
  unfold millref5_shaped.f collate_right.f
  simp only [millref5_shaped.j0, millref5_shaped.j1, ha, hw]
  have hd : decide ((n : Int) < 1024) = decide (n < 1024) := by rw [Bool.eq_iff_iff]; simp; omega
  rw [hd]
  generalize decide (n < 1024) = q
  clear e hd ha hw
  generalize k.f0 = a0
  generalize k.f1 = a1
  generalize k.f2 = a2
  generalize k.f3 = a3
  generalize k.f5 = a5
  simp only [decide_eq_true_eq, if_true, ite_true]
  by_cases c0 : a0 < 1 <;> simp only [c0, if_true, if_false]
  by_cases c1 : a0 > 2147483647 <;> simp only [c1, if_true, if_false]
  by_cases c2 : a1 < 1 <;> simp only [c2, if_true, if_false]
  by_cases c3 : a1 > 2147483647 <;> simp only [c3, if_true, if_false]
  by_cases c4 : a2 < 0 <;> simp only [c4, if_true, if_false]
  by_cases c5 : a2 > 2147483647 <;> simp only [c5, if_true, if_false]
  by_cases c6 : a3 < 0 <;> simp only [c6, if_true, if_false]
  by_cases c7 : a3 > 2147483647 <;> simp only [c7, if_true, if_false]
  by_cases c8 : a2 = 0
  · subst c8; simp
  · have : a2 > 0 := by omega
    simp only [c8, this, if_true, if_false]
theorem together_table : ∀ m : Fin 1024, millref5_goTogether.f 5 (m.val : Int) = some (togB m.val) := by decide +kernel
theorem together_ref (m : Nat) (h : m < 1024) : millref5_goTogether.f 5 (m : Int) = some (togB m) := together_table ⟨m, h⟩
theorem right_small (k : Ky) (n : Nat) (hn : k.f4 = (n : Int)) (h : n < 65536) (hr : rightB k = true) : n < 1024 := by
  have e := right_some k
  rw [hr, hn] at e
  have ha := and_small n h
  unfold collate_right.f at e
  rw [ha] at e
  by_cases hq : n < 1024
  · exact hq
  · rw [decide_eq_false hq] at e
    repeat' (split at e <;> try (cases e; done))
theorem has_one (m : Nat) (h : m < 1024) : millref5_has.f (m : Int) 1 = some (modB (m : Int)) := by
  have : ∀ m : Fin 1024, millref5_has.f (m.val : Int) 1 = some (modB (m.val : Int)) := by decide +kernel
  exact this ⟨m, h⟩
end Go.Proofs.YtnnoegjgaelafaaDoor.Pr
namespace Go.Proofs.YtnnoegjgaelafaaDoor.Pr
open Go.RowKit Go.Proofs.YtnnoegjgaelafaaDoorW.PrintWords Go.Proofs.YtnnoegjgaelafaaDoorW.PrintLast
set_option linter.unusedVariables false

/-- Where field number n begins; with b: behind the blanks there. -/
def begN (s : ByteArray) (t n : Int) (b : Bool) : Nat := if b then skipTo s true (placeFrom s t 0 (n - 1).toNat).1 else (placeFrom s t 0 (n - 1).toNat).1
theorem beg_le (s : ByteArray) (t n : Int) (b : Bool) : begN s t n b ≤ s.size := by
  have := place_le s t (n - 1).toNat 0 (Nat.zero_le _)
  unfold begN; split
  · exact skip_le s true _ this
  · exact this
/-- The part of a line that is a key. -/
def fromI (s : ByteArray) (t : Int) (k : Ky) : Int := min (s.size : Int) ((begN s t k.f0 (modB k.f4) : Nat) + k.f1 - 1)
def toI (s : ByteArray) (t : Int) (k : Ky) : Int :=
  if k.f2 > 0 then (if k.f3 > 0 then min (s.size : Int) ((begN s t k.f2 k.f5 : Nat) + k.f3) else match (fieldsL s t)[(k.f2 - 1).toNat]? with | some p => (p.2 : Int) | none => (s.size : Int)) else (s.size : Int)
def spanI (s : ByteArray) (t : Int) (k : Ky) : Int × Int := (fromI s t k, max (fromI s t k) (toI s t k))
/-- A key's numbers are in their bounds. -/
structure Fit (k : Ky) : Prop where
  a : 1 ≤ k.f0
  b : k.f0 ≤ 2147483647
  c : 1 ≤ k.f1
  d : k.f1 ≤ 2147483647
  e : 0 ≤ k.f2
  f : k.f2 ≤ 2147483647
  g : 0 ≤ k.f3
  h : k.f3 ≤ 2147483647
theorem fit_of_right (k : Ky) (h : rightB k = true) : Fit k := by
  have e := right_some k
  rw [h] at e
  unfold collate_right.f at e
  generalize (bits .andNot .u16 k.f4 1023 == 0) = q at e
  by_cases c0 : k.f0 < 1
  · rw [if_pos c0] at e; cases e
  rw [if_neg c0] at e
  by_cases c1 : k.f0 > 2147483647
  · rw [if_pos c1] at e; cases e
  rw [if_neg c1] at e
  by_cases c2 : k.f1 < 1
  · rw [if_pos c2] at e; cases e
  rw [if_neg c2] at e
  by_cases c3 : k.f1 > 2147483647
  · rw [if_pos c3] at e; cases e
  rw [if_neg c3] at e
  by_cases c4 : k.f2 < 0
  · rw [if_pos c4] at e; cases e
  rw [if_neg c4] at e
  by_cases c5 : k.f2 > 2147483647
  · rw [if_pos c5] at e; cases e
  rw [if_neg c5] at e
  by_cases c6 : k.f3 < 0
  · rw [if_pos c6] at e; cases e
  rw [if_neg c6] at e
  by_cases c7 : k.f3 > 2147483647
  · rw [if_pos c7] at e; cases e
  exact ⟨by omega, by omega, by omega, by omega, by omega, by omega, by omega, by omega⟩
end Go.Proofs.YtnnoegjgaelafaaDoor.Pr
namespace Go.Proofs.YtnnoegjgaelafaaDoor.Pr
open Go.RowKit Go.Proofs.YtnnoegjgaelafaaDoorW.PrintWords Go.Proofs.YtnnoegjgaelafaaDoorW.PrintLast
set_option linter.unusedVariables false

theorem place_there (s : ByteArray) (t : Int) : ∀ (n i : Nat), i ≤ s.size → (placeFrom s t i n).2 = true → (fieldsFrom s t i)[n]? = some ((placeFrom s t i n).1, behindN s t (placeFrom s t i n).1)
  | 0, i, hi, _ => by
    by_cases h : behindN s t i = s.size
    · rw [fields_last s t i h]; simp [placeFrom, h]
    · rw [fields_more s t i hi h]; rfl
  | n + 1, i, hi, hp => by
    unfold placeFrom at hp ⊢
    by_cases h : behindN s t i = s.size
    · rw [if_pos h] at hp; cases hp
    · rw [if_neg h] at hp ⊢
      rw [fields_more s t i hi h, List.getElem?_cons_succ]
      exact place_there s t n _ (next_le s t i hi h) hp
theorem place_not (s : ByteArray) (t : Int) : ∀ (n i : Nat), i ≤ s.size → (placeFrom s t i n).2 = false → (fieldsFrom s t i)[n]? = none
  | 0, i, hi, h => by cases h
  | n + 1, i, hi, hp => by
    unfold placeFrom at hp
    by_cases h : behindN s t i = s.size
    · rw [fields_last s t i h]; rfl
    · rw [if_neg h] at hp
      rw [fields_more s t i hi h, List.getElem?_cons_succ]
      exact place_not s t n _ (next_le s t i hi h) hp
/-- Where a key's part ends, the program's way. -/
def toP (s : ByteArray) (t : Int) (k : Ky) : Int :=
  if k.f2 > 0 then (if k.f3 > 0 then min (s.size : Int) ((begN s t k.f2 k.f5 : Nat) + k.f3) else if (placeFrom s t 0 (k.f2 - 1).toNat).2 then (behindN s t (placeFrom s t 0 (k.f2 - 1).toNat).1 : Nat) else (s.size : Int)) else (s.size : Int)
theorem toP_eq (s : ByteArray) (t : Int) (h1 : -1 ≤ t) (h2 : t ≤ 255) (k : Ky) : toP s t k = toI s t k := by
  unfold toP toI
  by_cases h : k.f2 > 0
  · rw [if_pos h, if_pos h]
    by_cases h3 : k.f3 > 0
    · rw [if_pos h3, if_pos h3]
    · rw [if_neg h3, if_neg h3]
      by_cases he : t = -1 ∧ s.size = 0
      · have hL : fieldsL s t = [] := by unfold fieldsL; rw [if_pos (.inr (.inr he))]
        have hp := place_le s t (k.f2 - 1).toNat 0 (Nat.zero_le _)
        have hb := behind_le s t (placeFrom s t 0 (k.f2 - 1).toNat).1 hp
        rw [hL]
        rw [List.getElem?_nil]
        split
        · show ((behindN s t (placeFrom s t 0 (k.f2 - 1).toNat).1 : Nat) : Int) = (s.size : Int)
          omega
        · rfl
      · have hL : fieldsL s t = fieldsFrom s t 0 := by unfold fieldsL; rw [if_neg (by omega)]
        rw [hL]
        cases hb : (placeFrom s t 0 (k.f2 - 1).toNat).2
        · rw [place_not s t _ 0 (Nat.zero_le _) hb]; rfl
        · rw [place_there s t _ 0 (Nat.zero_le _) hb]; rfl
  · rw [if_neg h, if_neg h]
theorem span_bounds (s : ByteArray) (t : Int) (h1 : -1 ≤ t) (h2 : t ≤ 255) (k : Ky) (hk : Fit k) : 0 ≤ (spanI s t k).1 ∧ (spanI s t k).1 ≤ (spanI s t k).2 ∧ (spanI s t k).2 ≤ (s.size : Int) := by
  have hf : 0 ≤ fromI s t k ∧ fromI s t k ≤ s.size := by have := hk.c; unfold fromI; omega
  have ht : toI s t k ≤ s.size := by
    rw [← toP_eq s t h1 h2]
    unfold toP
    have hp := place_le s t (k.f2 - 1).toNat 0 (Nat.zero_le _)
    have hb := behind_le s t (placeFrom s t 0 (k.f2 - 1).toNat).1 hp
    split
    · split
      · omega
      · split <;> omega
    · omega
  unfold spanI
  simp only
  omega
end Go.Proofs.YtnnoegjgaelafaaDoor.Pr
namespace Go.Proofs.YtnnoegjgaelafaaDoor.Pr
open Go.RowKit Go.Proofs.YtnnoegjgaelafaaDoorW.PrintWords Go.Proofs.YtnnoegjgaelafaaDoorW.PrintLast Go.Proofs.YtnnoegjgaelafaaDoorW.PrintMore
attribute [local go_sem] max2_int min2_int max_two min_two max_three min_three max_four min_four   -- for this text's walks alone
set_option linter.unusedVariables false
set_option linter.unusedSimpArgs false





def collate_turn.f (a0 : Int) (a1 : Bool) : Option (Int) := if a1 = true then (some (wrap64 (-a0))) else (some a0)
set_option maxHeartbeats 8000000 in
set_option maxRecDepth 100000 in
theorem collate_turn.calls (a0 : Int) (a1 : Bool) (r : Int) (w : World) (h : collate_turn.f a0 a1 = some r) :
    Calls Tryd.prog 37 #[.int .i64 a0, .bool a1] w fun e w' => e = .returned (.int .i64 r) ∧ Drawn0 w w' := by
  have H : (if a1 = true then (some (wrap64 (-a0))) else (some a0)) = some r := h
  clear h
  by_cases c3 : a1 = true
  · subst c3
    have H1 : (some (wrap64 (-a0))) = some r := by rw [if_pos rfl] at H; exact H
    clear H
    have H := H1
    clear H1
    obtain rfl := Option.some.inj H
    go_enter Tryd.func37, Tryd.ntmps37
    go_wp2
    go_ret
    exact ⟨by first | rfl | (simp; done) | (simp [*]; done), by repeat (first | exact Drawn0.refl _ | apply Drawn0.step)⟩
  · replace c3 := Bool.eq_false_iff.mpr c3
    subst c3
    have H1 : (some a0) = some r := by rw [if_neg (show ¬ (false = true) by decide)] at H; exact H
    clear H
    have H := H1
    clear H1
    obtain rfl := Option.some.inj H
    go_enter Tryd.func37, Tryd.ntmps37
    go_wp2
    go_ret
    exact ⟨by first | rfl | (simp; done) | (simp [*]; done), by repeat (first | exact Drawn0.refl _ | apply Drawn0.step)⟩






end Go.Proofs.YtnnoegjgaelafaaDoor.Pr
