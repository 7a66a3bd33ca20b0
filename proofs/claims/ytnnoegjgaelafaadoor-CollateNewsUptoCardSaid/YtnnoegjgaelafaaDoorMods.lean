/- What the program's together answers of modifiers: which go together. (math/bits.OnesCount16 by its table.) -/
import Derived.Test.YtnnoegjgaelafaaDoorProg
import Derived.Test.YtnnoegjgaelafaaDoorWWords
import Derived.WalkKit
import Derived.KernelRfl
import Derived.Outline
import Derived.WalkSpells
import Derived.WalkLawsBesides
import Derived.Deep.QuietTactic
import Derived.BigQuiet
namespace Go.Proofs.YtnnoegjgaelafaaDoor
open Go.RowKit Go.Proofs.YtnnoegjgaelafaaDoorW.PrintWords
set_option linter.unusedVariables false
def popTab : ByteArray := ⟨#[0, 1, 1, 2, 1, 2, 2, 3, 1, 2, 2, 3, 2, 3, 3, 4, 1, 2, 2, 3, 2, 3, 3, 4, 2, 3, 3, 4, 3, 4, 4, 5, 1, 2, 2, 3, 2, 3, 3, 4, 2, 3, 3, 4, 3, 4, 4, 5, 2, 3, 3, 4, 3, 4, 4, 5, 3, 4, 4, 5, 4, 5, 5, 6, 1, 2, 2, 3, 2, 3, 3, 4, 2, 3, 3, 4, 3, 4, 4, 5, 2, 3, 3, 4, 3, 4, 4, 5, 3, 4, 4, 5, 4, 5, 5, 6, 2, 3, 3, 4, 3, 4, 4, 5, 3, 4, 4, 5, 4, 5, 5, 6, 3, 4, 4, 5, 4, 5, 5, 6, 4, 5, 5, 6, 5, 6, 6, 7, 1, 2, 2, 3, 2, 3, 3, 4, 2, 3, 3, 4, 3, 4, 4, 5, 2, 3, 3, 4, 3, 4, 4, 5, 3, 4, 4, 5, 4, 5, 5, 6, 2, 3, 3, 4, 3, 4, 4, 5, 3, 4, 4, 5, 4, 5, 5, 6, 3, 4, 4, 5, 4, 5, 5, 6, 4, 5, 5, 6, 5, 6, 6, 7, 2, 3, 3, 4, 3, 4, 4, 5, 3, 4, 4, 5, 4, 5, 5, 6, 3, 4, 4, 5, 4, 5, 5, 6, 4, 5, 5, 6, 5, 6, 6, 7, 3, 4, 4, 5, 4, 5, 5, 6, 4, 5, 5, 6, 5, 6, 6, 7, 4, 5, 5, 6, 5, 6, 6, 7, 5, 6, 6, 7, 6, 7, 7, 8]⟩
theorem run_tab (i : Int) (h0 : 0 ≤ i) (h1 : i < 256) (W : World) : (Instr.index 9 (.string ⟨#[0, 1, 1, 2, 1, 2, 2, 3, 1, 2, 2, 3, 2, 3, 3, 4, 1, 2, 2, 3, 2, 3, 3, 4, 2, 3, 3, 4, 3, 4, 4, 5, 1, 2, 2, 3, 2, 3, 3, 4, 2, 3, 3, 4, 3, 4, 4, 5, 2, 3, 3, 4, 3, 4, 4, 5, 3, 4, 4, 5, 4, 5, 5, 6, 1, 2, 2, 3, 2, 3, 3, 4, 2, 3, 3, 4, 3, 4, 4, 5, 2, 3, 3, 4, 3, 4, 4, 5, 3, 4, 4, 5, 4, 5, 5, 6, 2, 3, 3, 4, 3, 4, 4, 5, 3, 4, 4, 5, 4, 5, 5, 6, 3, 4, 4, 5, 4, 5, 5, 6, 4, 5, 5, 6, 5, 6, 6, 7, 1, 2, 2, 3, 2, 3, 3, 4, 2, 3, 3, 4, 3, 4, 4, 5, 2, 3, 3, 4, 3, 4, 4, 5, 3, 4, 4, 5, 4, 5, 5, 6, 2, 3, 3, 4, 3, 4, 4, 5, 3, 4, 4, 5, 4, 5, 5, 6, 3, 4, 4, 5, 4, 5, 5, 6, 4, 5, 5, 6, 5, 6, 6, 7, 2, 3, 3, 4, 3, 4, 4, 5, 3, 4, 4, 5, 4, 5, 5, 6, 3, 4, 4, 5, 4, 5, 5, 6, 4, 5, 5, 6, 5, 6, 6, 7, 3, 4, 4, 5, 4, 5, 5, 6, 4, 5, 5, 6, 5, 6, 6, 7, 4, 5, 5, 6, 5, 6, 6, 7, 5, 6, 6, 7, 6, 7, 7, 8]⟩) (.int .u16 i)).run Tryd.prog W = .ok (.int .u8 (bt popTab i)) W := by
  have hs : popTab.size = 256 := by decide +kernel
  have hlt : i.toNat < popTab.size := by omega
  have h := bt_at popTab i hlt
  show (Instr.index 9 (.string popTab) (.int .u16 i)).run Tryd.prog W = _
  generalize popTab = s at *
  have hg : s[i.toNat]? = some (s[i.toNat]'hlt) := by simp [hlt]
  simp [Instr.index, asIntOf, run_underlying Tryd.underlying9, h0, hg, h]
set_option maxRecDepth 100000 in
set_option maxHeartbeats 4000000 in
theorem ones_calls (x : Int) (h0 : 0 ≤ x) (h1 : x < 512) (v1 v2 : Int) (e1 : bt popTab (x / 256) = v1) (e2 : bt popTab (bits .and .u16 x 255) = v2) (b1 : 0 ≤ v1 ∧ v1 ≤ 8) (b2 : 0 ≤ v2 ∧ v2 ≤ 8) (h2 : 0 ≤ bits .and .u16 x 255) (h3 : bits .and .u16 x 255 < 256) (w : World) :
    Calls Tryd.prog 73 #[.int .u16 x] w fun e w' => e = .returned (.int .i64 (v1 + v2)) ∧ Drawn0 w w' := by
  have i1 := run_tab (x / 256) (by omega) (by omega)
  have i2 := run_tab (bits .and .u16 x 255) h2 h3
  rw [e1] at i1
  rw [e2] at i2
  clear e1 e2
  go_enter Tryd.func73, Tryd.ntmps73
  go_wp2
  go_quiet (fail)
  go_wp2
  go_ret
  exact ⟨rfl, ⟨⟨nq, rfl⟩⟩⟩

/-- How many of the five kinds of numbers are there. -/
def kindsN (m : Nat) : Nat := m / 16 % 2 + m / 32 % 2 + m / 64 % 2 + m / 128 % 2 + m / 256 % 2
/-- The modifiers go together. -/
def togB (m : Nat) : Bool := kindsN m == 0 || kindsN m == 1 && (m / 2 % 2 == 0 && m / 8 % 2 == 0)
theorem mods_facts : ∀ m : Fin 1024, bt popTab (bits .and .u16 (m.val : Int) 496 / 256) + bt popTab (bits .and .u16 (bits .and .u16 (m.val : Int) 496) 255) = (kindsN m.val : Int) ∧
    (0 ≤ bt popTab (bits .and .u16 (m.val : Int) 496 / 256) ∧ bt popTab (bits .and .u16 (m.val : Int) 496 / 256) ≤ 8) ∧ (0 ≤ bt popTab (bits .and .u16 (bits .and .u16 (m.val : Int) 496) 255) ∧ bt popTab (bits .and .u16 (bits .and .u16 (m.val : Int) 496) 255) ≤ 8) ∧
    (0 ≤ bits .and .u16 (m.val : Int) 496 ∧ bits .and .u16 (m.val : Int) 496 < 512) ∧ (0 ≤ bits .and .u16 (bits .and .u16 (m.val : Int) 496) 255 ∧ bits .and .u16 (bits .and .u16 (m.val : Int) 496) 255 < 256) ∧
    (bits .and .u16 (m.val : Int) 10 == 0) = (m.val / 2 % 2 == 0 && m.val / 8 % 2 == 0) := by decide +kernel
set_option maxHeartbeats 4000000 in
theorem together_calls (m : Nat) (hm : m < 1024) (w : World) :
    Calls Tryd.prog 52 #[.int .u16 m] w fun e w' => e = .returned (.bool (togB m)) ∧ Drawn0 w w' := by
  obtain ⟨f1, f2, f3, f4, f5, f6⟩ := mods_facts ⟨m, hm⟩
  simp only at f1 f2 f3 f4 f5 f6
  have hc := fun W => ones_calls (bits .and .u16 (m : Int) 496) f4.1 f4.2 _ _ rfl rfl f2 f3 f5.1 f5.2 W
  rw [f1] at hc
  have HC := Aside0.mk hc
  clear hc f1 f2 f3 f5
  have hk : kindsN m = 0 ∨ kindsN m = 1 ∨ 2 ≤ kindsN m := by omega
  cases hd : (bits .and .u16 (m : Int) 10 == 0) <;> rw [hd] at f6
  all_goals
    rcases hk with h | h | h
    all_goals
      first
      | (have HR : Aside0 (togB m = false) := ⟨by unfold togB; rw [← f6, h]; rfl⟩)
      | (have HR : Aside0 (togB m = true) := ⟨by unfold togB; rw [← f6, h]; rfl⟩)
      | (have HR : Aside0 (togB m = false) := ⟨by unfold togB; rw [beq_eq_false_iff_ne.2 (by omega : kindsN m ≠ 0), beq_eq_false_iff_ne.2 (by omega : kindsN m ≠ 1)]; rfl⟩)
      clear f6
      have hb0 : (((kindsN m : Nat) : Int) == 0) = decide (kindsN m = 0) := by rw [Bool.eq_iff_iff]; simp
      have hb1 : (((kindsN m : Nat) : Int) == 1) = decide (kindsN m = 1) := by rw [Bool.eq_iff_iff]; simp; omega
      first
      | (rw [decide_eq_true h] at hb0)
      | (rw [decide_eq_false (by omega : ¬ kindsN m = 0)] at hb0)
      first
      | (rw [decide_eq_true h] at hb1)
      | (rw [decide_eq_false (by omega : ¬ kindsN m = 1)] at hb1)
      generalize hkk : ((kindsN m : Nat) : Int) = kk at *
      clear h hkk
      go_enter Tryd.func52, Tryd.ntmps52
      go_wp2_with (first | (go_at_call 73; refine (HC.out _).mono ?_; rintro e w' ⟨rfl, ⟨nq, rfl⟩⟩))
      first
      | (go_ret; exact ⟨by rw [HR.out]; rfl, ⟨⟨nq, rfl⟩⟩⟩)
      | (go_quiet (fail); go_wp2; go_ret; exact ⟨by rw [HR.out]; rfl, (Drawn0.step ⟨⟨nq, rfl⟩⟩ _)⟩)
/-- No bit beside the ten. -/
theorem and_small (a : Nat) (ha : a < 65536) : (bits .andNot .u16 (a : Int) 1023 == 0) = decide (a < 1024) := by
  have h1 : (BitVec.ofInt 16 (a : Int)).toNat = a := by
    rw [BitVec.ofInt_natCast, BitVec.toNat_ofNat]; exact Nat.mod_eq_of_lt (by omega)
  have e : bits .andNot .u16 (a : Int) 1023 = IntKind.u16.wrap ((BitVec.ofInt 16 (a : Int) &&& ~~~ BitVec.ofInt 16 1023).toNat : Int) := rfl
  generalize hx : BitVec.ofInt 16 (a : Int) = x at *
  have hlt := (x &&& ~~~ BitVec.ofInt 16 1023).isLt
  have e2 : bits .andNot .u16 (a : Int) 1023 = ((x &&& ~~~ BitVec.ofInt 16 1023).toNat : Int) := by
    rw [e]
    generalize (x &&& ~~~ BitVec.ofInt 16 1023).toNat = n at *
    simp only [IntKind.wrap, IntKind.bits, IntKind.signed]
    have h3 : n < 65536 := hlt
    simp
    omega
  rw [e2]
  by_cases h : a < 1024
  · rw [decide_eq_true h]
    have : x &&& ~~~ BitVec.ofInt 16 1023 = 0#16 := by
      apply BitVec.eq_of_getLsbD_eq
      intro i hi
      rw [BitVec.getLsbD_and]
      by_cases h10 : i < 10
      · have hb : (~~~ BitVec.ofInt 16 1023).getLsbD i = false := by
          have : ∀ j : Fin 10, (~~~ BitVec.ofInt 16 1023).getLsbD j.val = false := by decide +kernel
          exact this ⟨i, h10⟩
        rw [hb]; simp
      · have : x.getLsbD i = false := by
          rw [BitVec.getLsbD, h1]
          exact Nat.testBit_lt_two_pow (Nat.lt_of_lt_of_le h (show 2 ^ 10 ≤ 2 ^ i from Nat.pow_le_pow_right (by omega) (by omega)))
        rw [this]; simp
    rw [this]; rfl
  · rw [decide_eq_false h, beq_eq_false_iff_ne]
    intro h0
    obtain ⟨i, hi, hb⟩ := Nat.exists_ge_and_testBit_of_ge_two_pow (n := 10) (x := a) (by omega)
    have hi16 : i < 16 := by
      apply Nat.lt_of_not_le
      intro hge
      rw [Nat.testBit_lt_two_pow (Nat.lt_of_lt_of_le ha (show 2 ^ 16 ≤ 2 ^ i from Nat.pow_le_pow_right (by omega) hge))] at hb
      cases hb
    have hz : x &&& ~~~ BitVec.ofInt 16 1023 = 0#16 := BitVec.eq_of_toNat_eq (by rw [BitVec.toNat_ofNat]; omega)
    have hg : (x &&& ~~~ BitVec.ofInt 16 1023).getLsbD i = false := by rw [hz]; simp
    rw [BitVec.getLsbD_and, BitVec.getLsbD, h1, hb] at hg
    have : ∀ j : Fin 16, 10 ≤ j.val → (~~~ BitVec.ofInt 16 1023).getLsbD j.val = true := by decide +kernel
    rw [this ⟨i, hi16⟩ hi] at hg
    cases hg
end Go.Proofs.YtnnoegjgaelafaaDoor
