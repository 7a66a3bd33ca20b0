/- Facts of the list of the fields, for the law CollateCut. Pure. -/
import Derived.Test.YtnnoegjgaelafaaFieldsEq
namespace Go.Proofs.Ytnnoegjgaelafaa.Pr
open Go.RowKit Go.Proofs.YtnnoegjgaelafaaW.PrintWords Go.Proofs.YtnnoegjgaelafaaW.PrintLast
set_option linter.unusedVariables false

theorem cut_next_le (s : ByteArray) (t : Int) (i : Nat) (hi : i ≤ s.size) (h : behindN s t i ≠ s.size) : nextN t (behindN s t i) ≤ s.size := by
  have := behind_le s t i hi
  unfold nextN; split <;> omega
theorem ff_pos (s : ByteArray) (t : Int) (i : Nat) (hi : i ≤ s.size) : (fieldsFrom s t i)[0]? = some (i, behindN s t i) := by
  by_cases h : behindN s t i = s.size
  · rw [fields_last s t i h, h]; rfl
  · rw [fields_more s t i hi h]; rfl
theorem ff_at (s : ByteArray) (t : Int) : ∀ (n i : Nat) (p : Nat × Nat), i ≤ s.size → (fieldsFrom s t i)[n]? = some p → p.1 ≤ p.2 ∧ p.2 ≤ s.size ∧ p.2 = behindN s t p.1
  | 0, i, p, hi, h => by
    rw [ff_pos s t i hi] at h
    obtain rfl := Option.some.inj h
    exact ⟨behind_ge s t i hi, behind_le s t i hi, rfl⟩
  | n + 1, i, p, hi, h => by
    by_cases hb : behindN s t i = s.size
    · rw [fields_last s t i hb] at h; cases h
    · rw [fields_more s t i hi hb, List.getElem?_cons_succ] at h
      exact ff_at s t n _ p (cut_next_le s t i hi hb) h
theorem ff_next (s : ByteArray) (t : Int) : ∀ (n i : Nat) (p q : Nat × Nat), i ≤ s.size → (fieldsFrom s t i)[n]? = some p → (fieldsFrom s t i)[n + 1]? = some q → p.2 ≠ s.size ∧ q.1 = nextN t p.2
  | 0, i, p, q, hi, h, h2 => by
    rw [ff_pos s t i hi] at h
    obtain rfl := Option.some.inj h
    by_cases hb : behindN s t i = s.size
    · rw [fields_last s t i hb] at h2; cases h2
    · rw [fields_more s t i hi hb, List.getElem?_cons_succ, ff_pos _ _ _ (cut_next_le s t i hi hb)] at h2
      obtain rfl := Option.some.inj h2
      exact ⟨hb, rfl⟩
  | n + 1, i, p, q, hi, h, h2 => by
    by_cases hb : behindN s t i = s.size
    · rw [fields_last s t i hb] at h; cases h
    · rw [fields_more s t i hi hb, List.getElem?_cons_succ] at h h2
      exact ff_next s t n _ p q (cut_next_le s t i hi hb) h h2
theorem ff_last (s : ByteArray) (t : Int) : ∀ (n i : Nat) (p : Nat × Nat), i ≤ s.size → (fieldsFrom s t i)[n]? = some p → (fieldsFrom s t i)[n + 1]? = none → p.2 = s.size
  | 0, i, p, hi, h, h2 => by
    rw [ff_pos s t i hi] at h
    obtain rfl := Option.some.inj h
    by_cases hb : behindN s t i = s.size
    · exact hb
    · rw [fields_more s t i hi hb, List.getElem?_cons_succ, ff_pos _ _ _ (cut_next_le s t i hi hb)] at h2; cases h2
  | n + 1, i, p, hi, h, h2 => by
    by_cases hb : behindN s t i = s.size
    · rw [fields_last s t i hb] at h; cases h
    · rw [fields_more s t i hi hb, List.getElem?_cons_succ] at h h2
      exact ff_last s t n _ p (cut_next_le s t i hi hb) h h2
/-- With a separator: what a field is. -/
theorem tab_field (s : ByteArray) (t : Int) (h0 : 0 ≤ t) (i : Nat) (hi : i ≤ s.size) : behindN s t i = tabTo s t i := by unfold behindN; rw [if_neg (by omega)]
/-- The line's beginning, so far. -/
def startTo (l : List (Nat × Nat)) (j : Nat) : Nat := match j with | 0 => 0 | j + 1 => ((l[j]?).getD (0, 0)).2
theorem ext_full (s : ByteArray) : s.extract 0 s.size = s := by
  apply ByteArray.ext
  apply Array.toList_inj.1
  rw [ByteArray.data_extract, Array.toList_extract, List.extract_eq_take_drop]
  simp
  exact List.take_of_length_le (by rw [Array.length_toList]; exact Nat.le_refl _)
theorem ext_join (s : ByteArray) (a b : Nat) (h : a ≤ b) (hb : b ≤ s.size) : s.extract 0 a ++ s.extract a b = s.extract 0 b := by
  apply ByteArray.ext
  apply Array.toList_inj.1
  rw [ByteArray.data_append, Array.toList_append, ByteArray.data_extract, ByteArray.data_extract, ByteArray.data_extract, Array.toList_extract, Array.toList_extract, Array.toList_extract, List.extract_eq_take_drop, List.extract_eq_take_drop, List.extract_eq_take_drop]
  simp only [List.drop_zero, Nat.sub_zero]
  have e : b = a + (b - a) := by omega
  conv => rhs; rw [e, List.take_add]
theorem ext_byte (s : ByteArray) (a : Nat) (h : a < s.size) (c : Nat) (hc : c < 256) (hb : bt s (a : Int) = (c : Int)) : s.extract a (a + 1) = strOfNums [(c : Int)] := by
  apply ByteArray.ext
  apply Array.toList_inj.1
  have hx : s[a] = UInt8.ofNat c := by
    have h1 := bt_at s (a : Int) h
    simp only [Int.toNat_natCast] at h1
    rw [hb] at h1
    apply UInt8.toNat_inj.1
    simp
    omega
  rw [ByteArray.data_extract, Array.toList_extract, List.extract_eq_take_drop, strOfNums_data]
  have hl : a < s.data.toList.length := by rw [Array.length_toList]; exact h
  rw [List.drop_eq_getElem_cons hl]
  have e : s.data.toList[a] = UInt8.ofNat c := by rw [Array.getElem_toList]; exact hx
  simp [e]
theorem ext_size (s : ByteArray) (a b : Nat) (h : a ≤ b) (hb : b ≤ s.size) : (s.extract a b).size = b - a := by rw [ByteArray.size_extract]; omega
theorem ext_bt (s : ByteArray) (a b k : Nat) (h : a ≤ b) (hb : b ≤ s.size) (hk : k < b - a) : bt (s.extract a b) (k : Int) = bt s ((a + k : Nat) : Int) := by
  have h1 : k < (s.extract a b).size := by rw [ext_size s a b h hb]; exact hk
  rw [← bt_at (s.extract a b) (k : Int) h1, ← bt_at s ((a + k : Nat) : Int) (by show a + k < s.size; omega)]
  simp only [Int.toNat_natCast]
  congr 2
  rw [ByteArray.getElem_extract]
end Go.Proofs.Ytnnoegjgaelafaa.Pr
