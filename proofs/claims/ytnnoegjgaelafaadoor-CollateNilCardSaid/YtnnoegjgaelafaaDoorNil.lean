/- The law CollateNil: the walk; what a nil order answers. -/
import Derived.Test.YtnnoegjgaelafaaDoorCols
namespace Go.Proofs.YtnnoegjgaelafaaDoor.Pr
open Go.RowKit Go.Proofs.YtnnoegjgaelafaaDoorW.PrintWords Go.Proofs.YtnnoegjgaelafaaDoorW.PrintLast
set_option linter.unusedVariables false
set_option linter.unusedSimpArgs false

theorem sort_nil (v : Value) (w : World) : Calls Tryd.prog 25 #[.pointer none, v] w fun e w' => e = .returned (.slice none 0 0) ∧ Below w.heap.size w w' := by
  go_enter Tryd.func25, Tryd.ntmps25
  go_wp2
  go_ret
  exact ⟨rfl, (Below.refl _ _).alloc (Nat.le_refl _) _⟩
theorem keys_nil (a b : ByteArray) (w : World) : Calls Tryd.prog 20 #[.pointer none, .string a, .string b] w fun e w' => e = .returned (.int .i64 0) ∧ Below w.heap.size w w' := by
  go_enter Tryd.func20, Tryd.ntmps20
  go_wp2
  go_ret
  exact ⟨rfl, Below.refl _ _⟩
theorem compare_nil (a b : ByteArray) (w : World) : Calls Tryd.prog 23 #[.pointer none, .string a, .string b] w fun e w' => e = .returned (.int .i64 0) ∧ Below w.heap.size w w' := by
  have HK := Aside0.mk (fun W => keys_nil a b W)
  go_enter Tryd.func23, Tryd.ntmps23
  go_wp2_with (first
    | (go_at_call 20; refine Calls.mono (HK.out _) ?_; rintro e w1 ⟨rfl, hb1⟩; have HB := Aside0.mk hb1; clear hb1))
  go_ret
  exact ⟨rfl, HB.out⟩
theorem transform_nil (a : ByteArray) (w : World) : Calls Tryd.prog 24 #[.pointer none, .string a] w fun e w' => e = .returned (.string ⟨#[]⟩) ∧ Below w.heap.size w w' := by
  go_enter Tryd.func24, Tryd.ntmps24
  go_wp2
  go_ret
  exact ⟨rfl, Below.refl _ _⟩
theorem filter_nil (a : ByteArray) (i : Int) (w : World) : Calls Tryd.prog 21 #[.pointer none, .string a, .int .i64 i] w fun e w' => e = .returned (.string ⟨#[]⟩) ∧ Below w.heap.size w w' := by
  have HN := Aside0.mk (fun W => count_nil W)
  have HB : Aside0 (Below w.heap.size w w) := ⟨Below.refl _ _⟩
  by_cases h0 : i < 0
  · have hi0 : decide (i < 0) = true := decide_eq_true h0
    clear h0
    go_enter Tryd.func21, Tryd.ntmps21
    go_wp2
    go_ret
    exact ⟨rfl, HB.out⟩
  · have hi0 : decide (i < 0) = false := decide_eq_false h0
    have hi1 : decide (0 ≤ i) = true := decide_eq_true (by omega)
    clear h0
    go_enter Tryd.func21, Tryd.ntmps21
    go_wp2_with (first
      | (go_at_call 14; refine Calls.mono (HN.out _) ?_; rintro e w1 ⟨rfl, hb1⟩; replace HB := Aside0.mk (bstep HB.out hb1); clear hb1 HN))
    go_ret
    exact ⟨rfl, HB.out⟩
set_option maxHeartbeats 4000000 in
set_option maxRecDepth 100000 in
theorem span_nil (s : ByteArray) (i : Int) (w : World) : Calls Tryd.prog 15 #[.pointer none, .string s, .int .i64 i] w fun e w' => e = .returned (.agg #[.int .i64 0, .int .i64 0]) ∧ Below w.heap.size w w' := by
  have hu3 := Tryd.underlying37
  have HN := Aside0.mk (fun W => count_nil W)
  have HB : Aside0 (Below w.heap.size w (w.alloc (.cells #[.int .i64 0, .int .i64 0] 37))) := ⟨(Below.refl _ _).alloc (Nat.le_refl _) _⟩
  have HZ : Aside0 ((w.alloc (.cells #[.int .i64 0, .int .i64 0] 37)).heap[w.heap.size]? = some (.cells #[.int .i64 0, .int .i64 0] 37 (0, 0))) := ⟨heap_alloc_new _ _⟩
  by_cases h0 : i < 0
  · have hi0 : decide (i < 0) = true := decide_eq_true h0
    clear h0 HN
    go_enter Tryd.func15, Tryd.ntmps15
    go_upto_region 1 with (fail)
    obtain ⟨W0, hW0⟩ : ∃ W0 : World, W0 = w.alloc (.cells #[.int .i64 0, .int .i64 0] 37) := ⟨_, rfl⟩
    rw [← hW0] at HB HZ ⊢
    clear hW0
    have z := HZ.out
    have z0 := blk_cell z 0
    have z1 := blk_cell z 1
    have f0 := blk_frozen z 0
    have f1 := blk_frozen z 1
    simp at z0 z1
    clear z
    go_wp2
    refine bodyPost_ret (results_cell_row rfl _ _ w.heap.size 37 #[.int .i64 _, .int .i64 _] (0, 0) _ rfl (blk_put (cs := #[.int .i64 _, .int .i64 0]) (blk_put (cs := #[.int .i64 0, .int .i64 0]) HZ.out 0 _ rfl) 1 _ rfl) Tryd.underlying37 rfl (by kernel_rfl)) rfl ⟨rfl, below_set (below_set HB.out (Nat.le_refl _)) (Nat.le_refl _)⟩
  · have hi0 : decide (i < 0) = false := decide_eq_false h0
    have hi1 : decide (0 ≤ i) = true := decide_eq_true (by omega)
    clear h0
    go_enter Tryd.func15, Tryd.ntmps15
    go_upto_region 1 with (fail)
    obtain ⟨W0, hW0⟩ : ∃ W0 : World, W0 = w.alloc (.cells #[.int .i64 0, .int .i64 0] 37) := ⟨_, rfl⟩
    rw [← hW0] at HB HZ ⊢
    clear hW0
    go_wp2_with (first
      | (go_at_call 14; refine Calls.mono (HN.out _) ?_; rintro e w1 ⟨rfl, hb1⟩; replace HZ := Aside0.mk ((hb1.block _ (blk_lt HZ.out)).trans HZ.out); replace HB := Aside0.mk (bstep HB.out hb1); clear hb1 HN; have z := HZ.out; have z0 := blk_cell z 0; have z1 := blk_cell z 1; have f0 := blk_frozen z 0; have f1 := blk_frozen z 1; simp at z0 z1; clear z))
    refine bodyPost_ret (results_cell_row rfl _ _ w.heap.size 37 #[.int .i64 _, .int .i64 _] (0, 0) _ rfl (blk_put (cs := #[.int .i64 _, .int .i64 0]) (blk_put (cs := #[.int .i64 0, .int .i64 0]) HZ.out 0 _ rfl) 1 _ rfl) Tryd.underlying37 rfl (by kernel_rfl)) rfl ⟨rfl, below_set (below_set HB.out (Nat.le_refl _)) (Nat.le_refl _)⟩
def zRest : Rest := ⟨false, false, 0, ⟨#[]⟩, false, 0, 0, 0, 0, ⟨#[]⟩, false, ⟨#[]⟩, .slice none 0 0⟩
theorem new_zero (w : World) : Calls Tryd.prog 29 #[.agg (optVal (.slice none 0 0) 0 (-1) false false zRest)] w fun e w' => ∃ g, e = .returned (.tuple #[.pointer (some ⟨g, 0, none⟩), .int .i64 0]) ∧ OrdW w' g [⟨1, 1, 0, 0, 0, false⟩] (-1) true false ∧ Below w.heap.size w w' := by
  refine (new_calls none 0 [] 0 (-1) false false zRest w ⟨rfl, by decide, fun h => absurd h (by decide)⟩ (Nat.le_refl _) (by decide) 0 rfl (by decide) (fun k hk => by cases hk)).mono (fun e w' h => ?_)
  rcases h with ⟨hq, _⟩ | ⟨_, g, he, ho, _, hb⟩
  · exact absurd hq (by decide)
  · exact ⟨g, he, ho, hb⟩
set_option maxHeartbeats 8000000 in
set_option maxRecDepth 100000 in
theorem nil_walk (a b : ByteArray) (i : Int) (w : World) :
    Calls Tryd.prog 11 #[.string a, .string b, .int .i64 i] w fun e w' => e = .returned (.bool true) ∧ Below w.heap.size w w' := by
  have hu3 := Tryd.underlying37
  have hu7 := Tryd.underlying57
  have HSo := Aside0.mk sort_nil
  have HKe := Aside0.mk (keys_nil a b)
  have HCo := Aside0.mk (compare_nil a b)
  have HSp := Aside0.mk (span_nil a i)
  have HFi := Aside0.mk (filter_nil a i)
  have HTr := Aside0.mk (transform_nil a)
  have HCn := Aside0.mk count_nil
  have HNe := Aside0.mk new_zero
  have HX := Aside0.mk (fun (W : World) => milllaw5_num.calls 0 0 W rfl)
  unfold optVal zRest at HNe
  simp only at HNe
  go_enter Tryd.func11, Tryd.ntmps11
  go_upto_region 6 with (first
    | (go_at_call 25; refine Calls.mono (HSo.out _ _) ?_; rintro e w1 ⟨rfl, hb1⟩; have HB : Aside0 (Below w.heap.size w w1) := ⟨bstep ((Below.refl _ _).alloc (Nat.le_refl _) _) hb1⟩; clear hb1)
    | (go_at_call 20; refine Calls.mono (HKe.out _) ?_; rintro e w2 ⟨rfl, hb2⟩; replace HB := Aside0.mk (bstep HB.out hb2); clear hb2)
    | (go_at_call 23; refine Calls.mono (HCo.out _) ?_; rintro e w3 ⟨rfl, hb3⟩; replace HB := Aside0.mk (bstep HB.out hb3); clear hb3)
    | (go_at_call 15; refine Calls.mono (HSp.out _) ?_; rintro e w4 ⟨rfl, hb4⟩; replace HB := Aside0.mk (bstep HB.out hb4); clear hb4))
  obtain ⟨W5, hW5⟩ : ∃ W5 : World, W5 = w4.alloc (.cells #[.int .i64 0, .int .i64 0] 37) := ⟨_, rfl⟩
  have hb5 : Below w4.heap.size w4 W5 := by rw [hW5]; exact (Below.refl _ _).alloc (Nat.le_refl _) _
  have HZ : Aside0 (W5.heap[w4.heap.size]? = some (.cells #[.int .i64 0, .int .i64 0] 37 (0, 0))) := ⟨by rw [hW5]; exact heap_alloc_new _ _⟩
  replace HB := Aside0.mk (bstep HB.out hb5)
  rw [← hW5]
  clear hW5 hb5
  generalize w4.heap.size = g11 at *
  go_upto_region 13 with (first
    | (go_at_call 21; refine Calls.mono (HFi.out _) ?_; rintro e w6 ⟨rfl, hb6⟩; replace HZ := Aside0.mk ((hb6.block _ (blk_lt HZ.out)).trans HZ.out); replace HB := Aside0.mk (bstep HB.out hb6); clear hb6)
    | (go_at_call 24; refine Calls.mono (HTr.out _) ?_; rintro e w7 ⟨rfl, hb7⟩; replace HZ := Aside0.mk ((hb7.block _ (blk_lt HZ.out)).trans HZ.out); replace HB := Aside0.mk (bstep HB.out hb7); clear hb7)
    | (go_at_call 14; refine Calls.mono (HCn.out _) ?_; rintro e w8 ⟨rfl, hb8⟩; replace HZ := Aside0.mk ((hb8.block _ (blk_lt HZ.out)).trans HZ.out); replace HB := Aside0.mk (bstep HB.out hb8); clear hb8 HCn)
    | (go_at_call 29; refine Calls.mono (HNe.out _) ?_; rintro e w9 ⟨g, rfl, ho9, hb9⟩; replace HZ := Aside0.mk ((hb9.block _ (blk_lt HZ.out)).trans HZ.out); replace HB := Aside0.mk (bstep HB.out hb9); have HO := Aside0.mk ho9; clear hb9 ho9)
    | (go_at_call 30; refine Calls.mono (HX.out _) ?_; rintro e w10 ⟨rfl, ⟨nq, rfl⟩⟩; replace HB := Aside0.mk (pw_below_drewN HB.out nq); replace HO := Aside0.mk (HO.out.below (pw_below_drewN (Below.refl _ _) nq)))
    | (go_at_call 14; refine Calls.mono (count_calls _ _ _ _ _ _ HO.out) ?_; rintro e w11 ⟨rfl, hb11⟩; replace HZ := Aside0.mk ((hb11.block _ (blk_lt HZ.out)).trans HZ.out); replace HB := Aside0.mk (bstep HB.out hb11); clear hb11))
  have z0 := blk_cell HZ.out 0
  have z1 := blk_cell HZ.out 1
  simp at z0 z1
  go_wp2
  go_ret
  exact ⟨rfl, HB.out⟩
end Go.Proofs.YtnnoegjgaelafaaDoor.Pr
