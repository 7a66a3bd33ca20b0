/- Written by a program of this session (a turned copy of the kit's printer): the functions that a law reaches, as Lean functions, and their contracts. -/
import Derived.Test.YtnnoegjgaelafaaDoorPrx0
namespace Go.Proofs.YtnnoegjgaelafaaDoor.Pr
open Go.RowKit Go.Proofs.YtnnoegjgaelafaaDoorW.PrintWords Go.Proofs.YtnnoegjgaelafaaDoorW.PrintLast Go.Proofs.YtnnoegjgaelafaaDoorW.PrintMore
attribute [local go_sem] max2_int min2_int max_two min_two max_three min_three max_four min_four   -- for this text's walks alone
set_option linter.unusedVariables false
set_option linter.unusedSimpArgs false

-- NOT PRINTED: function 51 (api_Key)

-- NOT PRINTED: function 50 (keyspec_Effective)

-- NOT PRINTED: function 73 (bits_OnesCount16)

-- NOT PRINTED: function 52 (collate_together)

-- NOT PRINTED: function 29 (collate_New)

/-! ### milllaw5_num: function 30 -/
def milllaw5_num.f (a0 : Int) : Option (Int) := some a0
set_option maxHeartbeats 8000000 in
set_option maxRecDepth 100000 in
theorem milllaw5_num.calls (a0 : Int) (r : Int) (w : World) (h : milllaw5_num.f a0 = some r) :
    Calls Tryd.prog 30 #[.int .i64 a0] w fun e w' => e = .returned (.int .i64 r) ∧ Drawn0 w w' := by
  have H : (some a0) = some r := h
  clear h
  obtain rfl := Option.some.inj H
  go_enter Tryd.func30, Tryd.ntmps30
  go_wp2
  go_ret
  exact ⟨by first | rfl | (simp; done) | (simp [*]; done), by repeat (first | exact Drawn0.refl _ | apply Drawn0.step)⟩

/-! ### millref5_has: function 32 -/
def millref5_has.f (a0 : Int) (a1 : Int) : Option (Bool) := some ((Go.bits .and .i64 (wrap64 (a0)) a1) != 0)
set_option maxHeartbeats 8000000 in
set_option maxRecDepth 100000 in
theorem millref5_has.calls (a0 : Int) (a1 : Int) (r : Bool) (w : World) (h : millref5_has.f a0 a1 = some r) :
    Calls Tryd.prog 32 #[.int .u16 a0, .int .i64 a1] w fun e w' => e = .returned (.bool r) ∧ Drawn0 w w' := by
  have H : (some ((Go.bits .and .i64 (wrap64 (a0)) a1) != 0)) = some r := h
  clear h
  obtain rfl := Option.some.inj H
  go_enter Tryd.func32, Tryd.ntmps32
  go_wp2
  go_ret
  exact ⟨by first | rfl | (simp; done) | (simp [*]; done), by repeat (first | exact Drawn0.refl _ | apply Drawn0.step)⟩

end Go.Proofs.YtnnoegjgaelafaaDoor.Pr
