/- Where a field begins: the program's way and the list of the fields. Pure. -/
import Derived.Test.YtnnoegjgaelafaaDoorFieldsRef
namespace Go.Proofs.YtnnoegjgaelafaaDoor.Pr
open Go.RowKit Go.Proofs.YtnnoegjgaelafaaDoorW.PrintWords Go.Proofs.YtnnoegjgaelafaaDoorW.PrintLast
set_option linter.unusedVariables false

/-- The place n fields behind i, and whether it is there. -/
def placeFrom (s : ByteArray) (t : Int) (i : Nat) : Nat → Nat × Bool
  | 0 => (i, true)
  | n + 1 => if behindN s t i = s.size then (s.size, false) else placeFrom s t (nextN t (behindN s t i)) n
theorem next_le (s : ByteArray) (t : Int) (i : Nat) (hi : i ≤ s.size) (h : behindN s t i ≠ s.size) : nextN t (behindN s t i) ≤ s.size := by
  have := behind_le s t i hi
  unfold nextN; split <;> omega
theorem place_le (s : ByteArray) (t : Int) : ∀ (n i : Nat), i ≤ s.size → (placeFrom s t i n).1 ≤ s.size
  | 0, i, hi => hi
  | n + 1, i, hi => by
    unfold placeFrom
    split
    · exact Nat.le_refl _
    · rename_i h; exact place_le s t n _ (next_le s t i hi h)
theorem place_fields (s : ByteArray) (t : Int) : ∀ (n i : Nat), i ≤ s.size → placeFrom s t i n = match (fieldsFrom s t i)[n]? with | some p => (p.1, true) | none => (s.size, false)
  | 0, i, hi => by
    by_cases h : behindN s t i = s.size
    · rw [fields_last s t i h]; rfl
    · rw [fields_more s t i hi h]; rfl
  | n + 1, i, hi => by
    unfold placeFrom
    by_cases h : behindN s t i = s.size
    · rw [if_pos h, fields_last s t i h]; rfl
    · rw [if_neg h, fields_more s t i hi h, List.getElem?_cons_succ]
      exact place_fields s t n _ (next_le s t i hi h)
theorem place_false (s : ByteArray) (t : Int) : ∀ (n i : Nat), (placeFrom s t i n).2 = false → (placeFrom s t i n).1 = s.size
  | 0, i, h => by cases h
  | n + 1, i, h => by
    unfold placeFrom at h ⊢
    split
    · rfl
    · rename_i h2; rw [if_neg h2] at h; exact place_false s t n _ h
theorem field_loop (s : ByteArray) (hs : s.size ≤ 1048576) (t : Int) (ht : t ≤ 255) : ∀ (n : Nat) (N : Int) (i : Nat) (j : Int), N - j = (n : Int) → 0 ≤ j → N ≤ 2147483647 → i ≤ s.size →
    Ev (fun k => collate_field.l0 k s t (i : Int) N j) (((placeFrom s t i n).1 : Nat), (placeFrom s t i n).2)
  | 0, N, i, j, hn, hj, hN, hi => by
    refine Ev.step (f := fun _ => some ((i : Int), true)) (fun k => by rw [collate_field.l0, if_neg (by omega)]) ?_
    exact Ev.now _
  | n + 1, N, i, j, hn, hj, hN, hi => by
    have hb := behind_some s (by omega) t ht i hi
    have hle := behind_le s t i hi
    by_cases h : behindN s t i = s.size
    · refine Ev.step (f := fun _ => some ((s.size : Int), false)) (fun k => by rw [collate_field.l0, if_pos (by omega), hb, Option.bind_some, h, if_pos rfl]) ?_
      unfold placeFrom; rw [if_pos h]
      exact Ev.now _
    · have hne : ¬ ((behindN s t i : Nat) : Int) = (s.size : Int) := by omega
      have hw := wrap64_id (x := j + 1) (by omega) (by omega)
      have hw2 := wrap64_id (x := ((behindN s t i : Nat) : Int) + 1) (by omega) (by omega)
      have ih := field_loop s hs t ht n N (nextN t (behindN s t i)) (j + 1) (by omega) (by omega) hN (next_le s t i hi h)
      refine Ev.step (f := fun k => collate_field.l0 k s t ((nextN t (behindN s t i) : Nat) : Int) N (j + 1)) (fun k => by
        rw [collate_field.l0, if_pos (by omega), hb, Option.bind_some, if_neg hne, hw, hw2]
        unfold nextN
        by_cases h0 : t < 0
        · rw [if_neg (by omega), if_pos h0]
        · rw [if_pos (by omega), if_neg h0]; rfl) ?_
      unfold placeFrom; rw [if_neg h]
      exact ih
theorem field_prog (s : ByteArray) (hs : s.size ≤ 1048576) (t : Int) (ht : t ≤ 255) (n : Int) (h1 : 1 ≤ n) (h2 : n ≤ 2147483647) :
    Ev (fun k => collate_field.f k s n t) (((placeFrom s t 0 (n - 1).toNat).1 : Nat), (placeFrom s t 0 (n - 1).toNat).2) := by
  have hw := wrap64_id (x := n - 1) (by omega) (by omega)
  have := field_loop s hs t ht (n - 1).toNat (n - 1) 0 0 (by omega) (by omega) (by omega) (Nat.zero_le _)
  refine Ev.congr (fun k => ?_) this
  rw [collate_field.f, hw]; rfl
end Go.Proofs.YtnnoegjgaelafaaDoor.Pr
