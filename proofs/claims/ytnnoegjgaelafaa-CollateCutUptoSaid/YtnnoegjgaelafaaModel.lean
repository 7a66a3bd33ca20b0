/- The plain functions that this seat's contracts speak of: classes of bytes, blanks skipped, fields; and what is true of them. No program stands in this text. -/
import Derived.Test.YtnnoegjgaelafaaWWords
import Derived.Lib.IndexLaws
namespace Go.Proofs.Ytnnoegjgaelafaa
open Go.RowKit Go.Proofs.YtnnoegjgaelafaaW.PrintWords
set_option linter.unusedVariables false

/-- What a byte is: blank 1, letter or digit 2, printed 4. -/
def cls (c : Int) : Int := if c = 9 then 1 else if c = 32 then 5 else if (48 ≤ c ∧ c ≤ 57) ∨ (65 ≤ c ∧ c ≤ 90) ∨ (97 ≤ c ∧ c ≤ 122) then 6 else if 33 ≤ c ∧ c ≤ 126 then 4 else 0
def clsCells : Array Value := ((List.range 256).map fun (i : Nat) => Value.int .u8 (cls (i : Int))).toArray

def blank (c : Int) : Bool := c == 9 || c == 32
/-- The place behind all bytes of this sort from i on. -/
def skipTo (s : ByteArray) (b : Bool) (i : Nat) : Nat := if h : i < s.size then if blank ((s[i].toNat : Nat) : Int) == b then skipTo s b (i + 1) else i else i
termination_by s.size - i

theorem cls_blank (c : Int) (h : blank c = true) : cls c = 1 ∨ cls c = 5 := by
  unfold blank at h; simp at h
  rcases h with rfl | rfl
  · left; decide
  · right; decide
theorem cls_not (c : Int) (h : blank c = false) : cls c = 0 ∨ cls c = 4 ∨ cls c = 6 := by
  unfold blank at h; simp at h
  unfold cls
  rw [if_neg h.1, if_neg h.2]
  split
  · right; right; rfl
  · split
    · right; left; rfl
    · left; rfl
theorem skipTo_step (s : ByteArray) (b : Bool) (k : Nat) (h : k < s.size) : skipTo s b k = if blank ((s[k].toNat : Nat) : Int) == b then skipTo s b (k + 1) else k := by
  rw [skipTo, dif_pos h]
theorem skipTo_end (s : ByteArray) (b : Bool) (k : Nat) (h : ¬ k < s.size) : skipTo s b k = k := by
  rw [skipTo, dif_neg h]


theorem bt_nat (s : ByteArray) (k : Nat) (h : k < s.size) : bt s (k : Int) = ((s[k].toNat : Nat) : Int) := (bt_at s (k : Int) h).symm
def isB (s : ByteArray) (k : Nat) : Bool := blank (bt s (k : Int))
theorem isB_at (s : ByteArray) (k : Nat) (h : k < s.size) : blank ((s[k].toNat : Nat) : Int) = isB s k := by rw [isB, bt_nat s k h]
theorem skipTo_go (s : ByteArray) (b : Bool) (k : Nat) (h : k < s.size) (hb : isB s k = b) : skipTo s b k = skipTo s b (k + 1) := by
  rw [skipTo_step s b k h, isB_at s k h, hb, if_pos (by simp)]
theorem skipTo_stop (s : ByteArray) (b : Bool) (k : Nat) (h : k < s.size) (hb : isB s k ≠ b) : skipTo s b k = k := by
  rw [skipTo_step s b k h, isB_at s k h, if_neg (by simpa using hb)]
theorem skip_facts (s : ByteArray) (b : Bool) : ∀ (n i : Nat), s.size - i = n → i ≤ s.size → i ≤ skipTo s b i ∧ skipTo s b i ≤ s.size ∧ (∀ j, i ≤ j → j < skipTo s b i → isB s j = b) ∧ (skipTo s b i < s.size → isB s (skipTo s b i) ≠ b) := by
  intro n
  induction n with
  | zero =>
    intro i hn hi
    rw [skipTo_end s b i (by omega)]
    exact ⟨Nat.le_refl _, hi, fun j h1 h2 => by omega, fun h => by omega⟩
  | succ n ih =>
    intro i hn hi
    have hlt : i < s.size := by omega
    by_cases hb : isB s i = b
    · rw [skipTo_go s b i hlt hb]
      obtain ⟨h1, h2, h3, h4⟩ := ih (i + 1) (by omega) (by omega)
      refine ⟨by omega, h2, fun j hj hj2 => ?_, h4⟩
      by_cases e : j = i
      · rw [e]; exact hb
      · exact h3 j (by omega) hj2
    · rw [skipTo_stop s b i hlt hb]
      exact ⟨Nat.le_refl _, hi, fun j h1 h2 => by omega, fun _ => hb⟩
theorem skip_ge (s : ByteArray) (b : Bool) (i : Nat) (hi : i ≤ s.size) : i ≤ skipTo s b i := (skip_facts s b _ i rfl hi).1
theorem skip_le (s : ByteArray) (b : Bool) (i : Nat) (hi : i ≤ s.size) : skipTo s b i ≤ s.size := (skip_facts s b _ i rfl hi).2.1
theorem skip_in (s : ByteArray) (b : Bool) (i j : Nat) (hi : i ≤ s.size) (h1 : i ≤ j) (h2 : j < skipTo s b i) : isB s j = b := (skip_facts s b _ i rfl hi).2.2.1 j h1 h2
theorem skip_at (s : ByteArray) (b : Bool) (i : Nat) (hi : i ≤ s.size) (h : skipTo s b i < s.size) : isB s (skipTo s b i) ≠ b := (skip_facts s b _ i rfl hi).2.2.2 h

/-! ### The place behind the field that begins at i -/
/-- The first place from i on that holds this byte; else the end. -/
def tabTo (s : ByteArray) (t : Int) (i : Nat) : Nat := if h : i < s.size then if bt s (i : Int) = t then i else tabTo s t (i + 1) else s.size
termination_by s.size - i
theorem tabTo_hit (s : ByteArray) (t : Int) (i : Nat) (h : i < s.size) (e : bt s (i : Int) = t) : tabTo s t i = i := by rw [tabTo, dif_pos h, if_pos e]
theorem tabTo_go (s : ByteArray) (t : Int) (i : Nat) (h : i < s.size) (e : bt s (i : Int) ≠ t) : tabTo s t i = tabTo s t (i + 1) := by rw [tabTo, dif_pos h, if_neg e]
theorem tabTo_end (s : ByteArray) (t : Int) (i : Nat) (h : ¬ i < s.size) : tabTo s t i = s.size := by rw [tabTo, dif_neg h]
theorem tab_facts (s : ByteArray) (t : Int) : ∀ (n i : Nat), s.size - i = n → i ≤ s.size → i ≤ tabTo s t i ∧ tabTo s t i ≤ s.size ∧ (∀ j : Nat, i ≤ j → j < tabTo s t i → bt s (j : Int) ≠ t) ∧ (tabTo s t i < s.size → bt s ((tabTo s t i : Nat) : Int) = t) := by
  intro n
  induction n with
  | zero =>
    intro i hn hi
    rw [tabTo_end s t i (by omega)]
    exact ⟨hi, Nat.le_refl _, fun j h1 h2 => by omega, fun h => by omega⟩
  | succ n ih =>
    intro i hn hi
    have hlt : i < s.size := by omega
    by_cases hb : bt s (i : Int) = t
    · rw [tabTo_hit s t i hlt hb]
      exact ⟨Nat.le_refl _, hi, fun j h1 h2 => by omega, fun _ => hb⟩
    · rw [tabTo_go s t i hlt hb]
      obtain ⟨h1, h2, h3, h4⟩ := ih (i + 1) (by omega) (by omega)
      refine ⟨by omega, h2, fun j hj hj2 => ?_, h4⟩
      by_cases e : j = i
      · rw [e]; exact hb
      · exact h3 j (by omega) hj2
theorem tab_ge (s : ByteArray) (t : Int) (i : Nat) (hi : i ≤ s.size) : i ≤ tabTo s t i := (tab_facts s t _ i rfl hi).1
theorem tab_le (s : ByteArray) (t : Int) (i : Nat) (hi : i ≤ s.size) : tabTo s t i ≤ s.size := (tab_facts s t _ i rfl hi).2.1
theorem tab_in (s : ByteArray) (t : Int) (i j : Nat) (hi : i ≤ s.size) (h1 : i ≤ j) (h2 : j < tabTo s t i) : bt s (j : Int) ≠ t := (tab_facts s t _ i rfl hi).2.2.1 j h1 h2
theorem tab_at (s : ByteArray) (t : Int) (i : Nat) (hi : i ≤ s.size) (h : tabTo s t i < s.size) : bt s ((tabTo s t i : Nat) : Int) = t := (tab_facts s t _ i rfl hi).2.2.2 h
/-- What the library's IndexByte answers of the rest of a string. -/
theorem index_tab (s : ByteArray) (t : Int) (h0 : 0 ≤ t) (h1 : t ≤ 255) (i : Nat) (hi : i ≤ s.size) :
    Lib.indexByte (s.extract i s.size).data.toList (t % 256).toNat.toUInt8 = if tabTo s t i < s.size then ((tabTo s t i : Nat) : Int) - i else -1 := by
  have hc : ((t % 256).toNat.toUInt8).toNat = t.toNat := by
    rw [Nat.toUInt8, UInt8.toNat_ofNat']
    omega
  have hget : ∀ k : Nat, (s.extract i s.size).data.toList[k]? = if h : i + k < s.size then some s[i + k] else none := by
    intro k
    rw [ByteArray.data_extract, Array.toList_extract, List.extract_eq_take_drop, List.getElem?_take, List.getElem?_drop]
    by_cases h : i + k < s.size
    · rw [dif_pos h, if_pos (by omega)]
      show s.data.toList[i + k]? = _
      rw [Array.getElem?_toList]
      exact Array.getElem?_eq_getElem h
    · rw [dif_neg h]
      split
      · exact List.getElem?_eq_none (by show s.data.toList.length ≤ _; rw [Array.length_toList]; show s.size ≤ _; omega)
      · rfl
  have hval : ∀ (k : Nat) (h : i + k < s.size), (s[i + k] = (t % 256).toNat.toUInt8) ↔ bt s ((i + k : Nat) : Int) = t := by
    intro k h
    rw [bt_nat s (i + k) h, ← UInt8.toNat_inj, hc]
    omega
  obtain ⟨f1, f2, f3, f4⟩ := tab_facts s t _ i rfl hi
  have hge := Lib.indexByte_ge (s.extract i s.size).data.toList (t % 256).toNat.toUInt8
  by_cases hm : Lib.indexByte (s.extract i s.size).data.toList (t % 256).toNat.toUInt8 = -1
  · have hn := Lib.indexByte_none hm
    rw [hm, if_neg]
    intro hlt
    have := hn (tabTo s t i - i)
    rw [hget, dif_pos (by omega)] at this
    apply this
    congr 1
    rw [(hval (tabTo s t i - i) (by omega))]
    rw [show i + (tabTo s t i - i) = tabTo s t i from by omega]
    exact f4 hlt
  · obtain ⟨o, ho⟩ : ∃ o : Nat, Lib.indexByte (s.extract i s.size).data.toList (t % 256).toNat.toUInt8 = (o : Int) := ⟨(Lib.indexByte (s.extract i s.size).data.toList (t % 256).toNat.toUInt8).toNat, by omega⟩
    obtain ⟨h2, h3⟩ := Lib.indexByte_some ho
    rw [hget] at h2
    by_cases hlt : i + o < s.size
    · rw [dif_pos hlt] at h2
      have hb := (hval o hlt).1 (Option.some.inj h2)
      have hle : tabTo s t i ≤ i + o := by
        apply Nat.le_of_not_lt
        intro hh
        exact f3 (i + o) (by omega) hh hb
      have hnl : ¬ tabTo s t i < i + o := by
        intro hh
        have h5 := h3 (tabTo s t i - i) (by omega)
        rw [hget, dif_pos (by omega)] at h5
        apply h5
        congr 1
        rw [(hval (tabTo s t i - i) (by omega))]
        rw [show i + (tabTo s t i - i) = tabTo s t i from by omega]
        exact f4 (by omega)
      rw [ho, if_pos (by omega)]
      omega
    · rw [dif_neg hlt] at h2
      cases h2

def behindN (s : ByteArray) (t : Int) (i : Nat) : Nat := if t < 0 then skipTo s false (skipTo s true i) else tabTo s t i
theorem behind_ge (s : ByteArray) (t : Int) (i : Nat) (hi : i ≤ s.size) : i ≤ behindN s t i := by
  unfold behindN; split
  · have h1 := skip_ge s true i hi
    have h2 := skip_le s true i hi
    have h3 := skip_ge s false _ h2
    omega
  · exact tab_ge s t i hi
theorem behind_le (s : ByteArray) (t : Int) (i : Nat) (hi : i ≤ s.size) : behindN s t i ≤ s.size := by
  unfold behindN; split
  · exact skip_le s false _ (skip_le s true i hi)
  · exact tab_le s t i hi
/-- Without a separator a field is not empty. -/
theorem behind_gt (s : ByteArray) (t : Int) (ht : t < 0) (i : Nat) (hi : i < s.size) : i < behindN s t i := by
  unfold behindN; rw [if_pos ht]
  have h1 := skip_ge s true i (by omega)
  have h2 := skip_le s true i (by omega)
  have h3 := skip_ge s false _ h2
  by_cases hb : isB s i = true
  · have := skipTo_go s true i hi hb
    have h5 := skip_ge s true (i + 1) (by omega)
    omega
  · have e := skipTo_stop s true i hi hb
    rw [e] at h3 ⊢
    have := skipTo_go s false i hi (by simpa using hb)
    have h5 := skip_ge s false (i + 1) (by omega)
    omega
def nextN (t : Int) (e : Nat) : Nat := if t < 0 then e else e + 1
/-- The fields from the one on that begins at i: (from, to). -/
def fieldsFrom (s : ByteArray) (t : Int) (i : Nat) : List (Nat × Nat) :=
  if h : i < nextN t (behindN s t i) ∧ behindN s t i < s.size then (i, behindN s t i) :: fieldsFrom s t (nextN t (behindN s t i)) else [(i, s.size)]
termination_by s.size + 1 - i
decreasing_by
  have := h.1; have := h.2
  unfold nextN at *
  split at * <;> omega
theorem fields_last (s : ByteArray) (t : Int) (i : Nat) (h : behindN s t i = s.size) : fieldsFrom s t i = [(i, s.size)] := by
  rw [fieldsFrom, dif_neg (by omega)]
theorem fields_more (s : ByteArray) (t : Int) (i : Nat) (hi : i ≤ s.size) (h : behindN s t i ≠ s.size) : fieldsFrom s t i = (i, behindN s t i) :: fieldsFrom s t (nextN t (behindN s t i)) := by
  have h2 := behind_le s t i hi
  have h1 := behind_ge s t i hi
  rw [fieldsFrom, dif_pos]
  refine ⟨?_, by omega⟩
  unfold nextN
  split
  · exact behind_gt s t ‹_› i (by omega)
  · omega
def fieldsL (s : ByteArray) (t : Int) : List (Nat × Nat) := if t < -1 ∨ 255 < t ∨ t = -1 ∧ s.size = 0 then [] else fieldsFrom s t 0
end Go.Proofs.Ytnnoegjgaelafaa
