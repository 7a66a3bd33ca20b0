/- numeral's decimal and plain: what they answer. By hand. -/
import Derived.WalkMore
import Derived.Test.YtnnoegjgaelafaaDoorQWholeAb
namespace Go.Proofs.YtnnoegjgaelafaaDoor.Nu
open Go.RowKit Go.Proofs.YtnnoegjgaelafaaDoorW.PrintWords Go.Proofs.YtnnoegjgaelafaaDoorW.PrintLast Go.Proofs.YtnnoegjgaelafaaDoorW.PrintMore
set_option linter.unusedVariables false
set_option linter.unusedSimpArgs false

def numeral_decimal.f (a0 : Bool) (a1 a2 : ByteArray) (a3 : Int) : Option (Bool × ByteArray × ByteArray × Int) :=
  (strings_TrimLeft.f a1 (⟨#[48]⟩ : ByteArray)).bind fun x => (strings_TrimRight.f a2 (⟨#[48]⟩ : ByteArray)).bind fun y => some (a0 && (!x.toList.isEmpty || !y.toList.isEmpty), x, y, a3)
set_option maxHeartbeats 4000000 in
set_option maxRecDepth 100000 in
theorem numeral_decimal.calls (a0 : Bool) (a1 a2 : ByteArray) (a3 : Int) (r1 : Bool) (r2 r3 : ByteArray) (r4 : Int) (w : World) (h : numeral_decimal.f a0 a1 a2 a3 = some (r1, r2, r3, r4)) :
    Calls Tryd.prog 110 #[.agg #[.bool a0, .string a1, .string a2, .int .i64 a3]] w fun e w' => e = .returned (.agg #[.bool r1, .string r2, .string r3, .int .i64 r4]) ∧ Below w.heap.size w w' := by
  unfold numeral_decimal.f at h
  obtain ⟨x, hx, h⟩ := Option.bind_eq_some_iff.mp h
  obtain ⟨y, hy, h⟩ := Option.bind_eq_some_iff.mp h
  have h := Option.some.inj h
  simp only [Prod.mk.injEq] at h
  obtain ⟨rfl, rfl, rfl, rfl⟩ := h
  have hu1 := Tryd.underlying132
  have hu2 := Tryd.underlying124
  have HL : Aside0 (∀ W, Calls Tryd.prog 90 #[.string a1, .string (⟨#[48]⟩ : ByteArray)] W fun e w' => e = .returned (.string x) ∧ w' = W) := ⟨fun W => by
    unfold strings_TrimLeft.f at hx
    rw [if_pos rfl] at hx
    rw [← Option.some.inj hx]
    exact Tryd.strings_TrimLeft_one a1 48 (by decide) W⟩
  have HR : Aside0 (∀ W, Calls Tryd.prog 101 #[.string a2, .string (⟨#[48]⟩ : ByteArray)] W fun e w' => e = .returned (.string y) ∧ w' = W) := ⟨fun W => by
    unfold strings_TrimRight.f at hy
    by_cases hc : (⟨#[48]⟩ : ByteArray) = (⟨#[48]⟩ : ByteArray) ∧ a2.size ≤ 9223372036854775807
    · rw [if_pos hc] at hy
      rw [← Option.some.inj hy]
      exact Tryd.strings_TrimRight_one a2 48 (by decide) W hc.2
    · rw [if_neg hc] at hy; exact absurd hy (by simp)⟩
  clear hx hy
  have cs : (a0 = false) ∨ (a0 = true ∧ x.toList.isEmpty = false) ∨ (a0 = true ∧ x.toList.isEmpty = true) := by cases a0 <;> cases x.toList.isEmpty <;> simp
  rcases cs with rfl | ⟨rfl, hxe⟩ | ⟨rfl, hxe⟩
  · rw [show (false && (!x.toList.isEmpty || !y.toList.isEmpty)) = false from rfl]
    go_enter Tryd.func110, Tryd.ntmps110
    go_wp2
    obtain ⟨W0, hW0⟩ : ∃ W0 : World, W0 = (w.alloc (.cells #[.bool false, .string a1, .string a2, .int .i64 a3] 132)).alloc (.cells #[.bool false, .string (⟨#[]⟩ : ByteArray), .string (⟨#[]⟩ : ByteArray), .int .i64 0] 124) := ⟨_, rfl⟩
    have hb0 : Below w.heap.size w W0 := by rw [hW0]; exact ((Below.refl _ _).alloc (Nat.le_refl _) _).alloc (by simp) _
    have hz0 : W0.heap[w.heap.size]? = some (.cells #[.bool false, .string a1, .string a2, .int .i64 a3] 132 (0, 0)) := by rw [hW0]; exact blk_alloc (heap_alloc_new _ _) _
    have HZ : Aside0 (W0.heap[w.heap.size + 1]? = some (.cells #[.bool false, .string (⟨#[]⟩ : ByteArray), .string (⟨#[]⟩ : ByteArray), .int .i64 0] 124 (0, 0))) := ⟨by rw [hW0]; exact (by simpa using heap_alloc_new (w.alloc (.cells #[.bool false, .string a1, .string a2, .int .i64 a3] 132)) (.cells #[.bool false, .string (⟨#[]⟩ : ByteArray), .string (⟨#[]⟩ : ByteArray), .int .i64 0] 124))⟩
    have hgs : w.heap.size + 1 < W0.heap.size := by rw [hW0]; simp
    rw [← hW0]
    clear hW0
    have f0 := blk_cell hz0 0
    have f1 := blk_cell hz0 1
    have f2 := blk_cell hz0 2
    have f3 := blk_cell hz0 3
    simp at f0 f1 f2 f3
    have HB := Aside0.mk hb0
    clear hz0 hb0
    obtain ⟨g, hg⟩ : ∃ g : Nat, w.heap.size = g := ⟨_, rfl⟩
    rw [hg] at f0 f1 f2 f3 hgs HZ ⊢
    have HG := Aside0.mk hg
    clear hg
    go_region_held3 (fun w' => w'.cell? ⟨g, 0, none⟩ = some (.bool false) ∧ w'.cell? ⟨g, 1, none⟩ = some (.string a1) ∧ w'.cell? ⟨g, 2, none⟩ = some (.string a2) ∧ w'.cell? ⟨g, 3, none⟩ = some (.int .i64 a3))
      (go_keep)
      (first
        | (go_at_call 90; refine Calls.mono (HL.out _) ?_; rintro e w3 ⟨rfl, rfl⟩)
        | (go_at_call 101; refine Calls.mono (HR.out _) ?_; rintro e w4 ⟨rfl, rfl⟩))
    all_goals
      go_upto_region 3 with (fail)
      obtain ⟨W1, hW1⟩ : ∃ W1 : World, W1 = (W0.alloc (.cells #[.bool false, .string x, .string y, .int .i64 a3] 124)).drew := ⟨_, rfl⟩
      have HB1 : Aside0 (Below w.heap.size w W1) := ⟨by rw [hW1]; exact below_drew1 (below_alloc HB.out _)⟩
      have z1 : W1.heap[W0.heap.size]? = some (.cells #[.bool false, .string x, .string y, .int .i64 a3] 124 (0, 0)) := by rw [hW1]; exact blk_drew (heap_alloc_new _ _)
      have HZ1 : Aside0 (W1.heap[g + 1]? = some (.cells #[.bool false, .string (⟨#[]⟩ : ByteArray), .string (⟨#[]⟩ : ByteArray), .int .i64 0] 124 (0, 0))) := ⟨by rw [hW1]; exact blk_drew (blk_alloc HZ.out _)⟩
      rw [← hW1]
      clear hW1
      have c0 := blk_cell z1 0
      have c1 := blk_cell z1 1
      have c2 := blk_cell z1 2
      have c3 := blk_cell z1 3
      simp at c0 c1 c2 c3
      clear z1
      generalize W0.heap.size = gd at *
      have y0 := blk_cell HZ1.out 0
      have y1 := blk_cell HZ1.out 1
      have y2 := blk_cell HZ1.out 2
      have y3 := blk_cell HZ1.out 3
      simp at y0 y1 y2 y3
      have e0 := blk_frozen HZ1.out 0
      have e1 := blk_frozen HZ1.out 1
      have e2 := blk_frozen HZ1.out 2
      have e3 := blk_frozen HZ1.out 3
      go_wp2
      refine bodyPost_ret (results_cell_row rfl _ _ (g + 1) 124 #[.bool false, .string x, .string y, .int .i64 a3] (0, 0) _ rfl (blk_put (cs := #[.bool false, .string x, .string y, .int .i64 0]) (blk_put (cs := #[.bool false, .string x, .string (⟨#[]⟩ : ByteArray), .int .i64 0]) (blk_put (cs := #[.bool false, .string (⟨#[]⟩ : ByteArray), .string (⟨#[]⟩ : ByteArray), .int .i64 0]) (blk_put (cs := #[.bool false, .string (⟨#[]⟩ : ByteArray), .string (⟨#[]⟩ : ByteArray), .int .i64 0]) HZ1.out 0 _ rfl) 1 _ rfl) 2 _ rfl) 3 _ rfl) Tryd.underlying124 rfl (by kernel_rfl)) rfl ⟨rfl, ?_⟩
      have hg1 : w.heap.size ≤ g + 1 := by rw [HG.out]; exact Nat.le_succ _
      exact below_set (below_set (below_set (below_set HB1.out hg1) hg1) hg1) hg1
  · have hx1 : (x.toList != ([] : List UInt8)) = true := by rw [bne_iff_ne]; intro e; rw [e] at hxe; exact absurd hxe (by decide)
    have hx2 : (!x.toList.isEmpty) = true := by rw [hxe]; rfl
    have hr : (true && (!x.toList.isEmpty || !y.toList.isEmpty)) = true := by rw [hxe]; rfl
    rw [hr]
    clear hr
    go_enter Tryd.func110, Tryd.ntmps110
    go_wp2
    obtain ⟨W0, hW0⟩ : ∃ W0 : World, W0 = (w.alloc (.cells #[.bool true, .string a1, .string a2, .int .i64 a3] 132)).alloc (.cells #[.bool false, .string (⟨#[]⟩ : ByteArray), .string (⟨#[]⟩ : ByteArray), .int .i64 0] 124) := ⟨_, rfl⟩
    have hb0 : Below w.heap.size w W0 := by rw [hW0]; exact ((Below.refl _ _).alloc (Nat.le_refl _) _).alloc (by simp) _
    have hz0 : W0.heap[w.heap.size]? = some (.cells #[.bool true, .string a1, .string a2, .int .i64 a3] 132 (0, 0)) := by rw [hW0]; exact blk_alloc (heap_alloc_new _ _) _
    have HZ : Aside0 (W0.heap[w.heap.size + 1]? = some (.cells #[.bool false, .string (⟨#[]⟩ : ByteArray), .string (⟨#[]⟩ : ByteArray), .int .i64 0] 124 (0, 0))) := ⟨by rw [hW0]; exact (by simpa using heap_alloc_new (w.alloc (.cells #[.bool true, .string a1, .string a2, .int .i64 a3] 132)) (.cells #[.bool false, .string (⟨#[]⟩ : ByteArray), .string (⟨#[]⟩ : ByteArray), .int .i64 0] 124))⟩
    have hgs : w.heap.size + 1 < W0.heap.size := by rw [hW0]; simp
    rw [← hW0]
    clear hW0
    have f0 := blk_cell hz0 0
    have f1 := blk_cell hz0 1
    have f2 := blk_cell hz0 2
    have f3 := blk_cell hz0 3
    simp at f0 f1 f2 f3
    have HB := Aside0.mk hb0
    clear hz0 hb0
    obtain ⟨g, hg⟩ : ∃ g : Nat, w.heap.size = g := ⟨_, rfl⟩
    rw [hg] at f0 f1 f2 f3 hgs HZ ⊢
    have HG := Aside0.mk hg
    clear hg
    go_region_held3 (fun w' => w'.cell? ⟨g, 0, none⟩ = some (.bool true) ∧ w'.cell? ⟨g, 1, none⟩ = some (.string a1) ∧ w'.cell? ⟨g, 2, none⟩ = some (.string a2) ∧ w'.cell? ⟨g, 3, none⟩ = some (.int .i64 a3))
      (go_keep)
      (first
        | (go_at_call 90; refine Calls.mono (HL.out _) ?_; rintro e w3 ⟨rfl, rfl⟩)
        | (go_at_call 101; refine Calls.mono (HR.out _) ?_; rintro e w4 ⟨rfl, rfl⟩))
    all_goals
      go_upto_region 3 with (fail)
      obtain ⟨W1, hW1⟩ : ∃ W1 : World, W1 = (W0.alloc (.cells #[.bool true, .string x, .string y, .int .i64 a3] 124)).drew := ⟨_, rfl⟩
      have HB1 : Aside0 (Below w.heap.size w W1) := ⟨by rw [hW1]; exact below_drew1 (below_alloc HB.out _)⟩
      have z1 : W1.heap[W0.heap.size]? = some (.cells #[.bool true, .string x, .string y, .int .i64 a3] 124 (0, 0)) := by rw [hW1]; exact blk_drew (heap_alloc_new _ _)
      have HZ1 : Aside0 (W1.heap[g + 1]? = some (.cells #[.bool false, .string (⟨#[]⟩ : ByteArray), .string (⟨#[]⟩ : ByteArray), .int .i64 0] 124 (0, 0))) := ⟨by rw [hW1]; exact blk_drew (blk_alloc HZ.out _)⟩
      rw [← hW1]
      clear hW1
      have c0 := blk_cell z1 0
      have c1 := blk_cell z1 1
      have c2 := blk_cell z1 2
      have c3 := blk_cell z1 3
      simp at c0 c1 c2 c3
      clear z1
      generalize W0.heap.size = gd at *
      have y0 := blk_cell HZ1.out 0
      have y1 := blk_cell HZ1.out 1
      have y2 := blk_cell HZ1.out 2
      have y3 := blk_cell HZ1.out 3
      simp at y0 y1 y2 y3
      have e0 := blk_frozen HZ1.out 0
      have e1 := blk_frozen HZ1.out 1
      have e2 := blk_frozen HZ1.out 2
      have e3 := blk_frozen HZ1.out 3
      go_wp2
      refine bodyPost_ret (results_cell_row rfl _ _ (g + 1) 124 #[.bool true, .string x, .string y, .int .i64 a3] (0, 0) _ rfl (blk_put (cs := #[.bool true, .string x, .string y, .int .i64 0]) (blk_put (cs := #[.bool true, .string x, .string (⟨#[]⟩ : ByteArray), .int .i64 0]) (blk_put (cs := #[.bool true, .string (⟨#[]⟩ : ByteArray), .string (⟨#[]⟩ : ByteArray), .int .i64 0]) (blk_put (cs := #[.bool false, .string (⟨#[]⟩ : ByteArray), .string (⟨#[]⟩ : ByteArray), .int .i64 0]) HZ1.out 0 _ rfl) 1 _ rfl) 2 _ rfl) 3 _ rfl) Tryd.underlying124 rfl (by kernel_rfl)) rfl ⟨rfl, ?_⟩
      have hg1 : w.heap.size ≤ g + 1 := by rw [HG.out]; exact Nat.le_succ _
      exact below_set (below_set (below_set (below_set HB1.out hg1) hg1) hg1) hg1
  · have hx0 : x.toList = ([] : List UInt8) := List.isEmpty_iff.1 hxe
    have hx1 : (x.toList != ([] : List UInt8)) = false := by rw [hx0]; rfl
    have hr : (true && (!x.toList.isEmpty || !y.toList.isEmpty)) = !y.toList.isEmpty := by rw [hxe]; simp
    rw [hr]
    clear hr hx0
    have hx2 : (!x.toList.isEmpty) = false := by rw [hxe]; rfl
    generalize hyb : (!y.toList.isEmpty) = yb at *
    have hy1 : (y.toList != ([] : List UInt8)) = yb := by rw [← hyb]; cases y.toList <;> rfl
    go_enter Tryd.func110, Tryd.ntmps110
    go_wp2
    obtain ⟨W0, hW0⟩ : ∃ W0 : World, W0 = (w.alloc (.cells #[.bool true, .string a1, .string a2, .int .i64 a3] 132)).alloc (.cells #[.bool false, .string (⟨#[]⟩ : ByteArray), .string (⟨#[]⟩ : ByteArray), .int .i64 0] 124) := ⟨_, rfl⟩
    have hb0 : Below w.heap.size w W0 := by rw [hW0]; exact ((Below.refl _ _).alloc (Nat.le_refl _) _).alloc (by simp) _
    have hz0 : W0.heap[w.heap.size]? = some (.cells #[.bool true, .string a1, .string a2, .int .i64 a3] 132 (0, 0)) := by rw [hW0]; exact blk_alloc (heap_alloc_new _ _) _
    have HZ : Aside0 (W0.heap[w.heap.size + 1]? = some (.cells #[.bool false, .string (⟨#[]⟩ : ByteArray), .string (⟨#[]⟩ : ByteArray), .int .i64 0] 124 (0, 0))) := ⟨by rw [hW0]; exact (by simpa using heap_alloc_new (w.alloc (.cells #[.bool true, .string a1, .string a2, .int .i64 a3] 132)) (.cells #[.bool false, .string (⟨#[]⟩ : ByteArray), .string (⟨#[]⟩ : ByteArray), .int .i64 0] 124))⟩
    have hgs : w.heap.size + 1 < W0.heap.size := by rw [hW0]; simp
    rw [← hW0]
    clear hW0
    have f0 := blk_cell hz0 0
    have f1 := blk_cell hz0 1
    have f2 := blk_cell hz0 2
    have f3 := blk_cell hz0 3
    simp at f0 f1 f2 f3
    have HB := Aside0.mk hb0
    clear hz0 hb0
    obtain ⟨g, hg⟩ : ∃ g : Nat, w.heap.size = g := ⟨_, rfl⟩
    rw [hg] at f0 f1 f2 f3 hgs HZ ⊢
    have HG := Aside0.mk hg
    clear hg
    go_region_held3 (fun w' => w'.cell? ⟨g, 0, none⟩ = some (.bool true) ∧ w'.cell? ⟨g, 1, none⟩ = some (.string a1) ∧ w'.cell? ⟨g, 2, none⟩ = some (.string a2) ∧ w'.cell? ⟨g, 3, none⟩ = some (.int .i64 a3))
      (go_keep)
      (first
        | (go_at_call 90; refine Calls.mono (HL.out _) ?_; rintro e w3 ⟨rfl, rfl⟩)
        | (go_at_call 101; refine Calls.mono (HR.out _) ?_; rintro e w4 ⟨rfl, rfl⟩))
    all_goals
      go_upto_region 3 with (fail)
      obtain ⟨W1, hW1⟩ : ∃ W1 : World, W1 = (W0.alloc (.cells #[.bool yb, .string x, .string y, .int .i64 a3] 124)).drew := ⟨_, rfl⟩
      have HB1 : Aside0 (Below w.heap.size w W1) := ⟨by rw [hW1]; exact below_drew1 (below_alloc HB.out _)⟩
      have z1 : W1.heap[W0.heap.size]? = some (.cells #[.bool yb, .string x, .string y, .int .i64 a3] 124 (0, 0)) := by rw [hW1]; exact blk_drew (heap_alloc_new _ _)
      have HZ1 : Aside0 (W1.heap[g + 1]? = some (.cells #[.bool false, .string (⟨#[]⟩ : ByteArray), .string (⟨#[]⟩ : ByteArray), .int .i64 0] 124 (0, 0))) := ⟨by rw [hW1]; exact blk_drew (blk_alloc HZ.out _)⟩
      rw [← hW1]
      clear hW1
      have c0 := blk_cell z1 0
      have c1 := blk_cell z1 1
      have c2 := blk_cell z1 2
      have c3 := blk_cell z1 3
      simp at c0 c1 c2 c3
      clear z1
      generalize W0.heap.size = gd at *
      have y0 := blk_cell HZ1.out 0
      have y1 := blk_cell HZ1.out 1
      have y2 := blk_cell HZ1.out 2
      have y3 := blk_cell HZ1.out 3
      simp at y0 y1 y2 y3
      have e0 := blk_frozen HZ1.out 0
      have e1 := blk_frozen HZ1.out 1
      have e2 := blk_frozen HZ1.out 2
      have e3 := blk_frozen HZ1.out 3
      go_wp2
      refine bodyPost_ret (results_cell_row rfl _ _ (g + 1) 124 #[.bool yb, .string x, .string y, .int .i64 a3] (0, 0) _ rfl (blk_put (cs := #[.bool yb, .string x, .string y, .int .i64 0]) (blk_put (cs := #[.bool yb, .string x, .string (⟨#[]⟩ : ByteArray), .int .i64 0]) (blk_put (cs := #[.bool yb, .string (⟨#[]⟩ : ByteArray), .string (⟨#[]⟩ : ByteArray), .int .i64 0]) (blk_put (cs := #[.bool false, .string (⟨#[]⟩ : ByteArray), .string (⟨#[]⟩ : ByteArray), .int .i64 0]) HZ1.out 0 _ rfl) 1 _ rfl) 2 _ rfl) 3 _ rfl) Tryd.underlying124 rfl (by kernel_rfl)) rfl ⟨rfl, ?_⟩
      have hg1 : w.heap.size ≤ g + 1 := by rw [HG.out]; exact Nat.le_succ _
      exact below_set (below_set (below_set (below_set HB1.out hg1) hg1) hg1) hg1
end Go.Proofs.YtnnoegjgaelafaaDoor.Nu
