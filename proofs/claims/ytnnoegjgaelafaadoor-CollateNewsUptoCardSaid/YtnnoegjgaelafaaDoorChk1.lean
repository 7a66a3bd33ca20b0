/- The document's answers of one key: what is shaped is right, what goes together goes together. Pure. -/
import Derived.Test.YtnnoegjgaelafaaDoorNew1
import Derived.Test.YtnnoegjgaelafaaDoorPrx3
import Derived.Test.YtnnoegjgaelafaaDoorPrx4
import Derived.Test.YtnnoegjgaelafaaDoorPrx5
namespace Go.Proofs.YtnnoegjgaelafaaDoor.Pr
open Go.RowKit Go.Proofs.YtnnoegjgaelafaaDoorW.PrintWords Go.Proofs.YtnnoegjgaelafaaDoorW.PrintLast
set_option linter.unusedVariables false
set_option linter.unusedSimpArgs false

theorem wrap_small (x : Int) (h0 : 0 ≤ x) (h1 : x < 65536) : wrap64 x = x := by simp only [wrap64]; first | omega | (rw [IntKind.wrap_i64]; omega)
set_option maxHeartbeats 4000000 in
theorem shaped_right (k : Ky) (n : Nat) (hn : k.f4 = (n : Int)) (h : n < 65536) : millref5_shaped.f 3 k.f0 k.f1 k.f2 k.f3 k.f4 k.f5 = some (rightB k) := by
  have e := right_some k
  rw [← e, hn]
  have ha := and_small n h
  have hw := wrap_small (n : Int) (by omega) (by omega)
  unfold millref5_shaped.f collate_right.f
  simp only [millref5_shaped.j0, millref5_shaped.j1, ha, hw]
  have hd : decide ((n : Int) < 1024) = decide (n < 1024) := by rw [Bool.eq_iff_iff]; simp; omega
  rw [hd]
  generalize decide (n < 1024) = q
  clear e hd ha hw
  generalize k.f0 = a0
  generalize k.f1 = a1
  generalize k.f2 = a2
  generalize k.f3 = a3
  generalize k.f5 = a5
  simp only [decide_eq_true_eq, if_true, ite_true]
  by_cases c0 : a0 < 1 <;> simp only [c0, if_true, if_false]
  by_cases c1 : a0 > 2147483647 <;> simp only [c1, if_true, if_false]
  by_cases c2 : a1 < 1 <;> simp only [c2, if_true, if_false]
  by_cases c3 : a1 > 2147483647 <;> simp only [c3, if_true, if_false]
  by_cases c4 : a2 < 0 <;> simp only [c4, if_true, if_false]
  by_cases c5 : a2 > 2147483647 <;> simp only [c5, if_true, if_false]
  by_cases c6 : a3 < 0 <;> simp only [c6, if_true, if_false]
  by_cases c7 : a3 > 2147483647 <;> simp only [c7, if_true, if_false]
  by_cases c8 : a2 = 0
  · subst c8; simp
  · have : a2 > 0 := by omega
    simp only [c8, this, if_true, if_false]
theorem together_table : ∀ m : Fin 1024, millref5_goTogether.f 5 (m.val : Int) = some (togB m.val) := by decide +kernel
theorem together_ref (m : Nat) (h : m < 1024) : millref5_goTogether.f 5 (m : Int) = some (togB m) := together_table ⟨m, h⟩
theorem right_small (k : Ky) (n : Nat) (hn : k.f4 = (n : Int)) (h : n < 65536) (hr : rightB k = true) : n < 1024 := by
  have e := right_some k
  rw [hr, hn] at e
  have ha := and_small n h
  unfold collate_right.f at e
  rw [ha] at e
  by_cases hq : n < 1024
  · exact hq
  · rw [decide_eq_false hq] at e
    repeat' (split at e <;> try (cases e; done))
theorem has_one (m : Nat) (h : m < 1024) : millref5_has.f (m : Int) 1 = some (modB (m : Int)) := by
  have : ∀ m : Fin 1024, millref5_has.f (m.val : Int) 1 = some (modB (m.val : Int)) := by decide +kernel
  exact this ⟨m, h⟩
end Go.Proofs.YtnnoegjgaelafaaDoor.Pr
