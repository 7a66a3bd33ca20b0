/- The program's way to a key's part of a line is the document's. Pure. -/
import Derived.Test.YtnnoegjgaelafaaDoorSpanRef
namespace Go.Proofs.YtnnoegjgaelafaaDoor.Pr
open Go.RowKit Go.Proofs.YtnnoegjgaelafaaDoorW.PrintWords Go.Proofs.YtnnoegjgaelafaaDoorW.PrintLast
set_option linter.unusedVariables false

theorem place_there (s : ByteArray) (t : Int) : ∀ (n i : Nat), i ≤ s.size → (placeFrom s t i n).2 = true → (fieldsFrom s t i)[n]? = some ((placeFrom s t i n).1, behindN s t (placeFrom s t i n).1)
  | 0, i, hi, _ => by
    by_cases h : behindN s t i = s.size
    · rw [fields_last s t i h]; simp [placeFrom, h]
    · rw [fields_more s t i hi h]; rfl
  | n + 1, i, hi, hp => by
    unfold placeFrom at hp ⊢
    by_cases h : behindN s t i = s.size
    · rw [if_pos h] at hp; cases hp
    · rw [if_neg h] at hp ⊢
      rw [fields_more s t i hi h, List.getElem?_cons_succ]
      exact place_there s t n _ (next_le s t i hi h) hp
theorem place_not (s : ByteArray) (t : Int) : ∀ (n i : Nat), i ≤ s.size → (placeFrom s t i n).2 = false → (fieldsFrom s t i)[n]? = none
  | 0, i, hi, h => by cases h
  | n + 1, i, hi, hp => by
    unfold placeFrom at hp
    by_cases h : behindN s t i = s.size
    · rw [fields_last s t i h]; rfl
    · rw [if_neg h] at hp
      rw [fields_more s t i hi h, List.getElem?_cons_succ]
      exact place_not s t n _ (next_le s t i hi h) hp
/-- Where a key's part ends, the program's way. -/
def toP (s : ByteArray) (t : Int) (k : Ky) : Int :=
  if k.f2 > 0 then (if k.f3 > 0 then min (s.size : Int) ((begN s t k.f2 k.f5 : Nat) + k.f3) else if (placeFrom s t 0 (k.f2 - 1).toNat).2 then (behindN s t (placeFrom s t 0 (k.f2 - 1).toNat).1 : Nat) else (s.size : Int)) else (s.size : Int)
theorem toP_eq (s : ByteArray) (t : Int) (h1 : -1 ≤ t) (h2 : t ≤ 255) (k : Ky) : toP s t k = toI s t k := by
  unfold toP toI
  by_cases h : k.f2 > 0
  · rw [if_pos h, if_pos h]
    by_cases h3 : k.f3 > 0
    · rw [if_pos h3, if_pos h3]
    · rw [if_neg h3, if_neg h3]
      by_cases he : t = -1 ∧ s.size = 0
      · have hL : fieldsL s t = [] := by unfold fieldsL; rw [if_pos (.inr (.inr he))]
        have hp := place_le s t (k.f2 - 1).toNat 0 (Nat.zero_le _)
        have hb := behind_le s t (placeFrom s t 0 (k.f2 - 1).toNat).1 hp
        rw [hL]
        rw [List.getElem?_nil]
        split
        · show ((behindN s t (placeFrom s t 0 (k.f2 - 1).toNat).1 : Nat) : Int) = (s.size : Int)
          omega
        · rfl
      · have hL : fieldsL s t = fieldsFrom s t 0 := by unfold fieldsL; rw [if_neg (by omega)]
        rw [hL]
        cases hb : (placeFrom s t 0 (k.f2 - 1).toNat).2
        · rw [place_not s t _ 0 (Nat.zero_le _) hb]; rfl
        · rw [place_there s t _ 0 (Nat.zero_le _) hb]; rfl
  · rw [if_neg h, if_neg h]
theorem span_bounds (s : ByteArray) (t : Int) (h1 : -1 ≤ t) (h2 : t ≤ 255) (k : Ky) (hk : Fit k) : 0 ≤ (spanI s t k).1 ∧ (spanI s t k).1 ≤ (spanI s t k).2 ∧ (spanI s t k).2 ≤ (s.size : Int) := by
  have hf : 0 ≤ fromI s t k ∧ fromI s t k ≤ s.size := by have := hk.c; unfold fromI; omega
  have ht : toI s t k ≤ s.size := by
    rw [← toP_eq s t h1 h2]
    unfold toP
    have hp := place_le s t (k.f2 - 1).toNat 0 (Nat.zero_le _)
    have hb := behind_le s t (placeFrom s t 0 (k.f2 - 1).toNat).1 hp
    split
    · split
      · omega
      · split <;> omega
    · omega
  unfold spanI
  simp only
  omega
end Go.Proofs.YtnnoegjgaelafaaDoor.Pr
