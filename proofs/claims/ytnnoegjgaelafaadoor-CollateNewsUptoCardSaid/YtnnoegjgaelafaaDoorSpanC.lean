/- The program's span of a column: the part of the line that the document's Span names. -/
import Derived.Test.YtnnoegjgaelafaaDoorToP
import Derived.Test.YtnnoegjgaelafaaDoorCol
namespace Go.Proofs.YtnnoegjgaelafaaDoor.Pr
open Go.RowKit Go.Proofs.YtnnoegjgaelafaaDoorW.PrintWords Go.Proofs.YtnnoegjgaelafaaDoorW.PrintLast
set_option linter.unusedVariables false
set_option linter.unusedSimpArgs false

/-- A key's cells stand at p. -/
structure KeyAt (w : World) (p : Addr) (k : Ky) : Prop where
  c0 : w.cell? p = some (.int .i64 k.f0)
  c1 : w.cell? ⟨p.block, p.off + 1, none⟩ = some (.int .i64 k.f1)
  c2 : w.cell? ⟨p.block, p.off + 2, none⟩ = some (.int .i64 k.f2)
  c3 : w.cell? ⟨p.block, p.off + 3, none⟩ = some (.int .i64 k.f3)
  c4 : w.cell? ⟨p.block, p.off + 4, none⟩ = some (.int .u16 k.f4)
  c5 : w.cell? ⟨p.block, p.off + 5, none⟩ = some (.bool k.f5)
theorem cell_stays {W w1 : World} {p : Addr} {v : Value} (hb : Below W.heap.size W w1) (hc : W.cell? p = some v) : w1.cell? p = some v := (hb.cell (World.block_lt_of_cell? W p hc)).trans hc
theorem KeyAt.keep {w w1 : World} {p : Addr} {k : Ky} (h : KeyAt w p k) (hb : Below w.heap.size w w1) : KeyAt w1 p k :=
  ⟨cell_stays hb h.c0, cell_stays hb h.c1, cell_stays hb h.c2, cell_stays hb h.c3, cell_stays hb h.c4, cell_stays hb h.c5⟩
theorem field_calls (s : ByteArray) (hs : s.size ≤ 1048576) (t : Int) (h2 : t ≤ 255) (n : Int) (a : 1 ≤ n) (b : n ≤ 2147483647) (W : World) :
    Calls Tryd.prog 58 #[.string s, .int .i64 n, .int .i64 t] W fun e w' => e = .returned (.tuple #[.int .i64 (placeFrom s t 0 (n - 1).toNat).1, .bool (placeFrom s t 0 (n - 1).toNat).2]) ∧ Below W.heap.size W w' := by
  obtain ⟨K, hK⟩ := field_prog s hs t h2 n a b
  exact collate_field.calls K s n t _ _ W (hK K (Nat.le_refl _))
theorem behind_calls (s : ByteArray) (hs : s.size ≤ 1048576) (t : Int) (h2 : t ≤ 255) (i : Nat) (hi : i ≤ s.size) (W : World) :
    Calls Tryd.prog 60 #[.string s, .int .i64 i, .int .i64 t] W fun e w' => e = .returned (.int .i64 (behindN s t i)) ∧ Below W.heap.size W w' :=
  collate_behind.calls s i t _ W (behind_some s (by omega) t h2 i hi)
/-- In the walk: the result's cell at w's end, the key's cells at p. -/
structure SpAt (w W : World) (p : Addr) (k0 k1 k2 k3 k4 : Int) (k5 : Bool) : Prop where
  below : Below w.heap.size w W
  size : w.heap.size < W.heap.size
  z : W.heap[w.heap.size]? = some (.cells #[.int .i64 0, .int .i64 0] 37 (0, 0))
  c0 : W.cell? p = some (.int .i64 k0)
  c1 : W.cell? ⟨p.block, p.off + 1, none⟩ = some (.int .i64 k1)
  c2 : W.cell? ⟨p.block, p.off + 2, none⟩ = some (.int .i64 k2)
  c3 : W.cell? ⟨p.block, p.off + 3, none⟩ = some (.int .i64 k3)
  c4 : W.cell? ⟨p.block, p.off + 4, none⟩ = some (.int .u16 k4)
  c5 : W.cell? ⟨p.block, p.off + 5, none⟩ = some (.bool k5)
theorem SpAt.step {w W w1 : World} {p : Addr} {k0 k1 k2 k3 k4 : Int} {k5 : Bool} (h : SpAt w W p k0 k1 k2 k3 k4 k5) (hb : Below W.heap.size W w1) : SpAt w w1 p k0 k1 k2 k3 k4 k5 :=
  ⟨below_step h.below hb, Nat.lt_of_lt_of_le h.size hb.size, (hb.block _ h.size).trans h.z, cell_stays hb h.c0, cell_stays hb h.c1, cell_stays hb h.c2, cell_stays hb h.c3, cell_stays hb h.c4, cell_stays hb h.c5⟩
theorem SpAt.first {w : World} {p : Addr} {k : Ky} (h : KeyAt w p k) : SpAt w (w.alloc (.cells #[.int .i64 0, .int .i64 0] 37)) p k.f0 k.f1 k.f2 k.f3 k.f4 k.f5 := by
  have hb : Below w.heap.size w (w.alloc (.cells #[.int .i64 0, .int .i64 0] 37)) := (Below.refl _ _).alloc (Nat.le_refl _) _
  have h := h.keep hb
  exact ⟨hb, by simp, heap_alloc_new _ _, h.c0, h.c1, h.c2, h.c3, h.c4, h.c5⟩
set_option maxHeartbeats 4000000 in
set_option maxRecDepth 100000 in
theorem span_calls (s : ByteArray) (hs : s.size ≤ 1048576) (t : Int) (h1 : -1 ≤ t) (h2 : t ≤ 255) (k : Ky) (hk : Fit k) (p : Addr) (w : World) (h : KeyAt w p k) :
    Calls Tryd.prog 33 #[.pointer (some p), .string s, .int .i64 t] w fun e w' => e = .returned (.agg #[.int .i64 (spanI s t k).1, .int .i64 (spanI s t k).2]) ∧ Below w.heap.size w w' := by
  have hu := Tryd.underlying33
  have hu2 := Tryd.underlying71
  have hu3 := Tryd.underlying37
  have HA := Aside0.mk (SpAt.first h)
  obtain ⟨k0, k1, k2, k3, k4, k5⟩ := k
  obtain ⟨a, b, c, d, e, f, g, hh⟩ := hk
  simp only at a b c d e f g hh HA
  have HF := Aside0.mk (fun W => field_calls s hs t h2 k0 a b W)
  have hP := place_le s t (k0 - 1).toNat 0 (Nat.zero_le _)
  have HS := Aside0.mk (fun W => skip_calls s true (placeFrom s t 0 (k0 - 1).toNat).1 W (by omega) hP)
  have hbl := beg_le s t k0 (modB k4)
  have hsp : spanI s t ⟨k0, k1, k2, k3, k4, k5⟩ = (min (s.size : Int) ((begN s t k0 (modB k4) : Nat) + k1 - 1), max (min (s.size : Int) ((begN s t k0 (modB k4) : Nat) + k1 - 1)) (toP s t ⟨k0, k1, k2, k3, k4, k5⟩)) := by rw [toP_eq s t h1 h2]; rfl
  rw [hsp]
  clear hsp
  have HF2 := Aside0.mk (fun (h : 1 ≤ k2) W => field_calls s hs t h2 k2 h f W)
  have hP2 := place_le s t (k2 - 1).toNat 0 (Nat.zero_le _)
  have HS2 := Aside0.mk (fun W => skip_calls s true (placeFrom s t 0 (k2 - 1).toNat).1 W (by omega) hP2)
  have HB2 := Aside0.mk (fun W => behind_calls s hs t h2 (placeFrom s t 0 (k2 - 1).toNat).1 hP2 W)
  have hbl2 := beg_le s t k2 k5
  unfold toP
  unfold begN at hbl hbl2 ⊢
  unfold modB at hbl ⊢
  simp only at hbl hbl2 ⊢
  clear h
  have hl2 : 1 ≤ k2 ∨ ¬ k2 > 0 := by omega
  generalize placeFrom s t 0 (k0 - 1).toNat = P at *
  generalize placeFrom s t 0 (k2 - 1).toNat = P' at *
  obtain ⟨P1, P2⟩ := P
  obtain ⟨Q1, Q2⟩ := P'
  simp only at hP HS HF hbl hP2 HF2 HS2 HB2 hbl2 ⊢
  by_cases q2 : k2 > 0
  · have hx2 : decide (0 < k2) = true := decide_eq_true q2
    rw [if_pos q2]
    have HF2 := Aside0.mk (HF2.out (by omega))
    clear q2 hl2
    by_cases q3 : k3 > 0
    · have hx3 : decide (0 < k3) = true := decide_eq_true q3
      rw [if_pos q3]
      clear HB2 q3
      cases k5
      · simp only [if_neg (by decide : ¬ false = true), Bool.false_eq_true, if_false] at hbl2 ⊢
        clear HS2
        cases hb : (bits .and .u16 k4 1 != 0)
        · rw [hb] at hbl
          simp only [if_neg (by decide : ¬ false = true), Bool.false_eq_true, if_false] at hbl ⊢
          go_enter Tryd.func33, Tryd.ntmps33
          go_upto_region 1 with (fail)
          obtain ⟨W0, hW0⟩ : ∃ W0 : World, W0 = w.alloc (.cells #[.int .i64 0, .int .i64 0] 37) := ⟨_, rfl⟩
          rw [← hW0] at HA ⊢
          clear hW0
          obtain ⟨_, _, _, x0, x1, x2, x3, x4, x5⟩ := HA.out
          go_wp2_with (first
              | (go_at_call 58; refine Calls.mono (HF.out _) ?_; rintro e w1 ⟨rfl, hb1⟩; replace HA := Aside0.mk (HA.out.step hb1); clear HF hb1 x0 x1 x2 x3 x4 x5; obtain ⟨_, _, z, x0, x1, x2, x3, x4, x5⟩ := HA.out; (try clear z0 z1 f0 f1); have z0 := blk_cell z 0; have z1 := blk_cell z 1; have f0 := blk_frozen z 0; have f1 := blk_frozen z 1; simp at z0 z1; clear z)
              | (go_at_call 58; refine Calls.mono (HF2.out _) ?_; rintro e w1 ⟨rfl, hb1⟩; replace HA := Aside0.mk (HA.out.step hb1); clear HF2 hb1 x0 x1 x2 x3 x4 x5; obtain ⟨_, _, z, x0, x1, x2, x3, x4, x5⟩ := HA.out; (try clear z0 z1 f0 f1); have z0 := blk_cell z 0; have z1 := blk_cell z 1; have f0 := blk_frozen z 0; have f1 := blk_frozen z 1; simp at z0 z1; clear z))
          refine bodyPost_ret (results_cell_row rfl _ _ w.heap.size 37 #[.int .i64 _, .int .i64 _] (0, 0) _ rfl (blk_put (cs := #[.int .i64 _, .int .i64 0]) (blk_put (cs := #[.int .i64 0, .int .i64 0]) HA.out.z 0 _ rfl) 1 _ rfl) Tryd.underlying37 rfl (by kernel_rfl)) rfl ⟨rfl, below_set (below_set HA.out.below (Nat.le_refl _)) (Nat.le_refl _)⟩
        · rw [hb] at hbl
          simp only [if_true] at hbl ⊢
          go_enter Tryd.func33, Tryd.ntmps33
          go_upto_region 1 with (fail)
          obtain ⟨W0, hW0⟩ : ∃ W0 : World, W0 = w.alloc (.cells #[.int .i64 0, .int .i64 0] 37) := ⟨_, rfl⟩
          rw [← hW0] at HA ⊢
          clear hW0
          obtain ⟨_, _, _, x0, x1, x2, x3, x4, x5⟩ := HA.out
          go_wp2_with (first
              | (go_at_call 58; refine Calls.mono (HF.out _) ?_; rintro e w1 ⟨rfl, hb1⟩; replace HA := Aside0.mk (HA.out.step hb1); clear HF hb1 x0 x1 x2 x3 x4 x5; obtain ⟨_, _, z, x0, x1, x2, x3, x4, x5⟩ := HA.out; (try clear z0 z1 f0 f1); have z0 := blk_cell z 0; have z1 := blk_cell z 1; have f0 := blk_frozen z 0; have f1 := blk_frozen z 1; simp at z0 z1; clear z)
              | (go_at_call 59; refine Calls.mono (HS.out _) ?_; rintro e w1 ⟨rfl, hb1⟩; replace HA := Aside0.mk (HA.out.step hb1); clear HS hb1 x0 x1 x2 x3 x4 x5; obtain ⟨_, _, z, x0, x1, x2, x3, x4, x5⟩ := HA.out; (try clear z0 z1 f0 f1); have z0 := blk_cell z 0; have z1 := blk_cell z 1; have f0 := blk_frozen z 0; have f1 := blk_frozen z 1; simp at z0 z1; clear z)
              | (go_at_call 58; refine Calls.mono (HF2.out _) ?_; rintro e w1 ⟨rfl, hb1⟩; replace HA := Aside0.mk (HA.out.step hb1); clear HF2 hb1 x0 x1 x2 x3 x4 x5; obtain ⟨_, _, z, x0, x1, x2, x3, x4, x5⟩ := HA.out; (try clear z0 z1 f0 f1); have z0 := blk_cell z 0; have z1 := blk_cell z 1; have f0 := blk_frozen z 0; have f1 := blk_frozen z 1; simp at z0 z1; clear z))
          refine bodyPost_ret (results_cell_row rfl _ _ w.heap.size 37 #[.int .i64 _, .int .i64 _] (0, 0) _ rfl (blk_put (cs := #[.int .i64 _, .int .i64 0]) (blk_put (cs := #[.int .i64 0, .int .i64 0]) HA.out.z 0 _ rfl) 1 _ rfl) Tryd.underlying37 rfl (by kernel_rfl)) rfl ⟨rfl, below_set (below_set HA.out.below (Nat.le_refl _)) (Nat.le_refl _)⟩
      · simp only [if_true] at hbl2 ⊢
        cases hb : (bits .and .u16 k4 1 != 0)
        · rw [hb] at hbl
          simp only [if_neg (by decide : ¬ false = true), Bool.false_eq_true, if_false] at hbl ⊢
          go_enter Tryd.func33, Tryd.ntmps33
          go_upto_region 1 with (fail)
          obtain ⟨W0, hW0⟩ : ∃ W0 : World, W0 = w.alloc (.cells #[.int .i64 0, .int .i64 0] 37) := ⟨_, rfl⟩
          rw [← hW0] at HA ⊢
          clear hW0
          obtain ⟨_, _, _, x0, x1, x2, x3, x4, x5⟩ := HA.out
          go_wp2_with (first
              | (go_at_call 58; refine Calls.mono (HF.out _) ?_; rintro e w1 ⟨rfl, hb1⟩; replace HA := Aside0.mk (HA.out.step hb1); clear HF hb1 x0 x1 x2 x3 x4 x5; obtain ⟨_, _, z, x0, x1, x2, x3, x4, x5⟩ := HA.out; (try clear z0 z1 f0 f1); have z0 := blk_cell z 0; have z1 := blk_cell z 1; have f0 := blk_frozen z 0; have f1 := blk_frozen z 1; simp at z0 z1; clear z)
              | (go_at_call 58; refine Calls.mono (HF2.out _) ?_; rintro e w1 ⟨rfl, hb1⟩; replace HA := Aside0.mk (HA.out.step hb1); clear HF2 hb1 x0 x1 x2 x3 x4 x5; obtain ⟨_, _, z, x0, x1, x2, x3, x4, x5⟩ := HA.out; (try clear z0 z1 f0 f1); have z0 := blk_cell z 0; have z1 := blk_cell z 1; have f0 := blk_frozen z 0; have f1 := blk_frozen z 1; simp at z0 z1; clear z)
              | (go_at_call 59; refine Calls.mono (HS2.out _) ?_; rintro e w1 ⟨rfl, hb1⟩; replace HA := Aside0.mk (HA.out.step hb1); clear HS2 hb1 x0 x1 x2 x3 x4 x5; obtain ⟨_, _, z, x0, x1, x2, x3, x4, x5⟩ := HA.out; (try clear z0 z1 f0 f1); have z0 := blk_cell z 0; have z1 := blk_cell z 1; have f0 := blk_frozen z 0; have f1 := blk_frozen z 1; simp at z0 z1; clear z))
          refine bodyPost_ret (results_cell_row rfl _ _ w.heap.size 37 #[.int .i64 _, .int .i64 _] (0, 0) _ rfl (blk_put (cs := #[.int .i64 _, .int .i64 0]) (blk_put (cs := #[.int .i64 0, .int .i64 0]) HA.out.z 0 _ rfl) 1 _ rfl) Tryd.underlying37 rfl (by kernel_rfl)) rfl ⟨rfl, below_set (below_set HA.out.below (Nat.le_refl _)) (Nat.le_refl _)⟩
        · rw [hb] at hbl
          simp only [if_true] at hbl ⊢
          go_enter Tryd.func33, Tryd.ntmps33
          go_upto_region 1 with (fail)
          obtain ⟨W0, hW0⟩ : ∃ W0 : World, W0 = w.alloc (.cells #[.int .i64 0, .int .i64 0] 37) := ⟨_, rfl⟩
          rw [← hW0] at HA ⊢
          clear hW0
          obtain ⟨_, _, _, x0, x1, x2, x3, x4, x5⟩ := HA.out
          go_wp2_with (first
              | (go_at_call 58; refine Calls.mono (HF.out _) ?_; rintro e w1 ⟨rfl, hb1⟩; replace HA := Aside0.mk (HA.out.step hb1); clear HF hb1 x0 x1 x2 x3 x4 x5; obtain ⟨_, _, z, x0, x1, x2, x3, x4, x5⟩ := HA.out; (try clear z0 z1 f0 f1); have z0 := blk_cell z 0; have z1 := blk_cell z 1; have f0 := blk_frozen z 0; have f1 := blk_frozen z 1; simp at z0 z1; clear z)
              | (go_at_call 59; refine Calls.mono (HS.out _) ?_; rintro e w1 ⟨rfl, hb1⟩; replace HA := Aside0.mk (HA.out.step hb1); clear HS hb1 x0 x1 x2 x3 x4 x5; obtain ⟨_, _, z, x0, x1, x2, x3, x4, x5⟩ := HA.out; (try clear z0 z1 f0 f1); have z0 := blk_cell z 0; have z1 := blk_cell z 1; have f0 := blk_frozen z 0; have f1 := blk_frozen z 1; simp at z0 z1; clear z)
              | (go_at_call 58; refine Calls.mono (HF2.out _) ?_; rintro e w1 ⟨rfl, hb1⟩; replace HA := Aside0.mk (HA.out.step hb1); clear HF2 hb1 x0 x1 x2 x3 x4 x5; obtain ⟨_, _, z, x0, x1, x2, x3, x4, x5⟩ := HA.out; (try clear z0 z1 f0 f1); have z0 := blk_cell z 0; have z1 := blk_cell z 1; have f0 := blk_frozen z 0; have f1 := blk_frozen z 1; simp at z0 z1; clear z)
              | (go_at_call 59; refine Calls.mono (HS2.out _) ?_; rintro e w1 ⟨rfl, hb1⟩; replace HA := Aside0.mk (HA.out.step hb1); clear HS2 hb1 x0 x1 x2 x3 x4 x5; obtain ⟨_, _, z, x0, x1, x2, x3, x4, x5⟩ := HA.out; (try clear z0 z1 f0 f1); have z0 := blk_cell z 0; have z1 := blk_cell z 1; have f0 := blk_frozen z 0; have f1 := blk_frozen z 1; simp at z0 z1; clear z))
          refine bodyPost_ret (results_cell_row rfl _ _ w.heap.size 37 #[.int .i64 _, .int .i64 _] (0, 0) _ rfl (blk_put (cs := #[.int .i64 _, .int .i64 0]) (blk_put (cs := #[.int .i64 0, .int .i64 0]) HA.out.z 0 _ rfl) 1 _ rfl) Tryd.underlying37 rfl (by kernel_rfl)) rfl ⟨rfl, below_set (below_set HA.out.below (Nat.le_refl _)) (Nat.le_refl _)⟩
    · have hx3 : decide (0 < k3) = false := decide_eq_false q3
      rw [if_neg q3]
      clear HS2 q3
      cases Q2
      · simp only [Bool.false_eq_true, if_false]
        clear HB2
        cases hb : (bits .and .u16 k4 1 != 0)
        · rw [hb] at hbl
          simp only [if_neg (by decide : ¬ false = true), Bool.false_eq_true, if_false] at hbl ⊢
          go_enter Tryd.func33, Tryd.ntmps33
          go_upto_region 1 with (fail)
          obtain ⟨W0, hW0⟩ : ∃ W0 : World, W0 = w.alloc (.cells #[.int .i64 0, .int .i64 0] 37) := ⟨_, rfl⟩
          rw [← hW0] at HA ⊢
          clear hW0
          obtain ⟨_, _, _, x0, x1, x2, x3, x4, x5⟩ := HA.out
          go_wp2_with (first
              | (go_at_call 58; refine Calls.mono (HF.out _) ?_; rintro e w1 ⟨rfl, hb1⟩; replace HA := Aside0.mk (HA.out.step hb1); clear HF hb1 x0 x1 x2 x3 x4 x5; obtain ⟨_, _, z, x0, x1, x2, x3, x4, x5⟩ := HA.out; (try clear z0 z1 f0 f1); have z0 := blk_cell z 0; have z1 := blk_cell z 1; have f0 := blk_frozen z 0; have f1 := blk_frozen z 1; simp at z0 z1; clear z)
              | (go_at_call 58; refine Calls.mono (HF2.out _) ?_; rintro e w1 ⟨rfl, hb1⟩; replace HA := Aside0.mk (HA.out.step hb1); clear HF2 hb1 x0 x1 x2 x3 x4 x5; obtain ⟨_, _, z, x0, x1, x2, x3, x4, x5⟩ := HA.out; (try clear z0 z1 f0 f1); have z0 := blk_cell z 0; have z1 := blk_cell z 1; have f0 := blk_frozen z 0; have f1 := blk_frozen z 1; simp at z0 z1; clear z))
          refine bodyPost_ret (results_cell_row rfl _ _ w.heap.size 37 #[.int .i64 _, .int .i64 _] (0, 0) _ rfl (blk_put (cs := #[.int .i64 _, .int .i64 0]) (blk_put (cs := #[.int .i64 0, .int .i64 0]) HA.out.z 0 _ rfl) 1 _ rfl) Tryd.underlying37 rfl (by kernel_rfl)) rfl ⟨rfl, below_set (below_set HA.out.below (Nat.le_refl _)) (Nat.le_refl _)⟩
        · rw [hb] at hbl
          simp only [if_true] at hbl ⊢
          go_enter Tryd.func33, Tryd.ntmps33
          go_upto_region 1 with (fail)
          obtain ⟨W0, hW0⟩ : ∃ W0 : World, W0 = w.alloc (.cells #[.int .i64 0, .int .i64 0] 37) := ⟨_, rfl⟩
          rw [← hW0] at HA ⊢
          clear hW0
          obtain ⟨_, _, _, x0, x1, x2, x3, x4, x5⟩ := HA.out
          go_wp2_with (first
              | (go_at_call 58; refine Calls.mono (HF.out _) ?_; rintro e w1 ⟨rfl, hb1⟩; replace HA := Aside0.mk (HA.out.step hb1); clear HF hb1 x0 x1 x2 x3 x4 x5; obtain ⟨_, _, z, x0, x1, x2, x3, x4, x5⟩ := HA.out; (try clear z0 z1 f0 f1); have z0 := blk_cell z 0; have z1 := blk_cell z 1; have f0 := blk_frozen z 0; have f1 := blk_frozen z 1; simp at z0 z1; clear z)
              | (go_at_call 59; refine Calls.mono (HS.out _) ?_; rintro e w1 ⟨rfl, hb1⟩; replace HA := Aside0.mk (HA.out.step hb1); clear HS hb1 x0 x1 x2 x3 x4 x5; obtain ⟨_, _, z, x0, x1, x2, x3, x4, x5⟩ := HA.out; (try clear z0 z1 f0 f1); have z0 := blk_cell z 0; have z1 := blk_cell z 1; have f0 := blk_frozen z 0; have f1 := blk_frozen z 1; simp at z0 z1; clear z)
              | (go_at_call 58; refine Calls.mono (HF2.out _) ?_; rintro e w1 ⟨rfl, hb1⟩; replace HA := Aside0.mk (HA.out.step hb1); clear HF2 hb1 x0 x1 x2 x3 x4 x5; obtain ⟨_, _, z, x0, x1, x2, x3, x4, x5⟩ := HA.out; (try clear z0 z1 f0 f1); have z0 := blk_cell z 0; have z1 := blk_cell z 1; have f0 := blk_frozen z 0; have f1 := blk_frozen z 1; simp at z0 z1; clear z))
          refine bodyPost_ret (results_cell_row rfl _ _ w.heap.size 37 #[.int .i64 _, .int .i64 _] (0, 0) _ rfl (blk_put (cs := #[.int .i64 _, .int .i64 0]) (blk_put (cs := #[.int .i64 0, .int .i64 0]) HA.out.z 0 _ rfl) 1 _ rfl) Tryd.underlying37 rfl (by kernel_rfl)) rfl ⟨rfl, below_set (below_set HA.out.below (Nat.le_refl _)) (Nat.le_refl _)⟩
      · simp only [if_true]
        cases hb : (bits .and .u16 k4 1 != 0)
        · rw [hb] at hbl
          simp only [if_neg (by decide : ¬ false = true), Bool.false_eq_true, if_false] at hbl ⊢
          go_enter Tryd.func33, Tryd.ntmps33
          go_upto_region 1 with (fail)
          obtain ⟨W0, hW0⟩ : ∃ W0 : World, W0 = w.alloc (.cells #[.int .i64 0, .int .i64 0] 37) := ⟨_, rfl⟩
          rw [← hW0] at HA ⊢
          clear hW0
          obtain ⟨_, _, _, x0, x1, x2, x3, x4, x5⟩ := HA.out
          go_wp2_with (first
              | (go_at_call 58; refine Calls.mono (HF.out _) ?_; rintro e w1 ⟨rfl, hb1⟩; replace HA := Aside0.mk (HA.out.step hb1); clear HF hb1 x0 x1 x2 x3 x4 x5; obtain ⟨_, _, z, x0, x1, x2, x3, x4, x5⟩ := HA.out; (try clear z0 z1 f0 f1); have z0 := blk_cell z 0; have z1 := blk_cell z 1; have f0 := blk_frozen z 0; have f1 := blk_frozen z 1; simp at z0 z1; clear z)
              | (go_at_call 58; refine Calls.mono (HF2.out _) ?_; rintro e w1 ⟨rfl, hb1⟩; replace HA := Aside0.mk (HA.out.step hb1); clear HF2 hb1 x0 x1 x2 x3 x4 x5; obtain ⟨_, _, z, x0, x1, x2, x3, x4, x5⟩ := HA.out; (try clear z0 z1 f0 f1); have z0 := blk_cell z 0; have z1 := blk_cell z 1; have f0 := blk_frozen z 0; have f1 := blk_frozen z 1; simp at z0 z1; clear z)
              | (go_at_call 60; refine Calls.mono (HB2.out _) ?_; rintro e w1 ⟨rfl, hb1⟩; replace HA := Aside0.mk (HA.out.step hb1); clear HB2 hb1 x0 x1 x2 x3 x4 x5; obtain ⟨_, _, z, x0, x1, x2, x3, x4, x5⟩ := HA.out; (try clear z0 z1 f0 f1); have z0 := blk_cell z 0; have z1 := blk_cell z 1; have f0 := blk_frozen z 0; have f1 := blk_frozen z 1; simp at z0 z1; clear z))
          refine bodyPost_ret (results_cell_row rfl _ _ w.heap.size 37 #[.int .i64 _, .int .i64 _] (0, 0) _ rfl (blk_put (cs := #[.int .i64 _, .int .i64 0]) (blk_put (cs := #[.int .i64 0, .int .i64 0]) HA.out.z 0 _ rfl) 1 _ rfl) Tryd.underlying37 rfl (by kernel_rfl)) rfl ⟨rfl, below_set (below_set HA.out.below (Nat.le_refl _)) (Nat.le_refl _)⟩
        · rw [hb] at hbl
          simp only [if_true] at hbl ⊢
          go_enter Tryd.func33, Tryd.ntmps33
          go_upto_region 1 with (fail)
          obtain ⟨W0, hW0⟩ : ∃ W0 : World, W0 = w.alloc (.cells #[.int .i64 0, .int .i64 0] 37) := ⟨_, rfl⟩
          rw [← hW0] at HA ⊢
          clear hW0
          obtain ⟨_, _, _, x0, x1, x2, x3, x4, x5⟩ := HA.out
          go_wp2_with (first
              | (go_at_call 58; refine Calls.mono (HF.out _) ?_; rintro e w1 ⟨rfl, hb1⟩; replace HA := Aside0.mk (HA.out.step hb1); clear HF hb1 x0 x1 x2 x3 x4 x5; obtain ⟨_, _, z, x0, x1, x2, x3, x4, x5⟩ := HA.out; (try clear z0 z1 f0 f1); have z0 := blk_cell z 0; have z1 := blk_cell z 1; have f0 := blk_frozen z 0; have f1 := blk_frozen z 1; simp at z0 z1; clear z)
              | (go_at_call 59; refine Calls.mono (HS.out _) ?_; rintro e w1 ⟨rfl, hb1⟩; replace HA := Aside0.mk (HA.out.step hb1); clear HS hb1 x0 x1 x2 x3 x4 x5; obtain ⟨_, _, z, x0, x1, x2, x3, x4, x5⟩ := HA.out; (try clear z0 z1 f0 f1); have z0 := blk_cell z 0; have z1 := blk_cell z 1; have f0 := blk_frozen z 0; have f1 := blk_frozen z 1; simp at z0 z1; clear z)
              | (go_at_call 58; refine Calls.mono (HF2.out _) ?_; rintro e w1 ⟨rfl, hb1⟩; replace HA := Aside0.mk (HA.out.step hb1); clear HF2 hb1 x0 x1 x2 x3 x4 x5; obtain ⟨_, _, z, x0, x1, x2, x3, x4, x5⟩ := HA.out; (try clear z0 z1 f0 f1); have z0 := blk_cell z 0; have z1 := blk_cell z 1; have f0 := blk_frozen z 0; have f1 := blk_frozen z 1; simp at z0 z1; clear z)
              | (go_at_call 60; refine Calls.mono (HB2.out _) ?_; rintro e w1 ⟨rfl, hb1⟩; replace HA := Aside0.mk (HA.out.step hb1); clear HB2 hb1 x0 x1 x2 x3 x4 x5; obtain ⟨_, _, z, x0, x1, x2, x3, x4, x5⟩ := HA.out; (try clear z0 z1 f0 f1); have z0 := blk_cell z 0; have z1 := blk_cell z 1; have f0 := blk_frozen z 0; have f1 := blk_frozen z 1; simp at z0 z1; clear z))
          refine bodyPost_ret (results_cell_row rfl _ _ w.heap.size 37 #[.int .i64 _, .int .i64 _] (0, 0) _ rfl (blk_put (cs := #[.int .i64 _, .int .i64 0]) (blk_put (cs := #[.int .i64 0, .int .i64 0]) HA.out.z 0 _ rfl) 1 _ rfl) Tryd.underlying37 rfl (by kernel_rfl)) rfl ⟨rfl, below_set (below_set HA.out.below (Nat.le_refl _)) (Nat.le_refl _)⟩
  · have hx2 : decide (0 < k2) = false := decide_eq_false q2
    rw [if_neg q2]
    clear HF2 HS2 HB2 hP2 hbl2 q2
    cases hb : (bits .and .u16 k4 1 != 0)
    · rw [hb] at hbl
      simp only [if_neg (by decide : ¬ false = true), Bool.false_eq_true, if_false] at hbl ⊢
      go_enter Tryd.func33, Tryd.ntmps33
      go_upto_region 1 with (fail)
      obtain ⟨W0, hW0⟩ : ∃ W0 : World, W0 = w.alloc (.cells #[.int .i64 0, .int .i64 0] 37) := ⟨_, rfl⟩
      rw [← hW0] at HA ⊢
      clear hW0
      obtain ⟨_, _, _, x0, x1, x2, x3, x4, x5⟩ := HA.out
      go_wp2_with (first
          | (go_at_call 58; refine Calls.mono (HF.out _) ?_; rintro e w1 ⟨rfl, hb1⟩; replace HA := Aside0.mk (HA.out.step hb1); clear HF hb1 x0 x1 x2 x3 x4 x5; obtain ⟨_, _, z, x0, x1, x2, x3, x4, x5⟩ := HA.out; (try clear z0 z1 f0 f1); have z0 := blk_cell z 0; have z1 := blk_cell z 1; have f0 := blk_frozen z 0; have f1 := blk_frozen z 1; simp at z0 z1; clear z))
      refine bodyPost_ret (results_cell_row rfl _ _ w.heap.size 37 #[.int .i64 _, .int .i64 _] (0, 0) _ rfl (blk_put (cs := #[.int .i64 _, .int .i64 0]) (blk_put (cs := #[.int .i64 0, .int .i64 0]) HA.out.z 0 _ rfl) 1 _ rfl) Tryd.underlying37 rfl (by kernel_rfl)) rfl ⟨rfl, below_set (below_set HA.out.below (Nat.le_refl _)) (Nat.le_refl _)⟩
    · rw [hb] at hbl
      simp only [if_true] at hbl ⊢
      go_enter Tryd.func33, Tryd.ntmps33
      go_upto_region 1 with (fail)
      obtain ⟨W0, hW0⟩ : ∃ W0 : World, W0 = w.alloc (.cells #[.int .i64 0, .int .i64 0] 37) := ⟨_, rfl⟩
      rw [← hW0] at HA ⊢
      clear hW0
      obtain ⟨_, _, _, x0, x1, x2, x3, x4, x5⟩ := HA.out
      go_wp2_with (first
          | (go_at_call 58; refine Calls.mono (HF.out _) ?_; rintro e w1 ⟨rfl, hb1⟩; replace HA := Aside0.mk (HA.out.step hb1); clear HF hb1 x0 x1 x2 x3 x4 x5; obtain ⟨_, _, z, x0, x1, x2, x3, x4, x5⟩ := HA.out; (try clear z0 z1 f0 f1); have z0 := blk_cell z 0; have z1 := blk_cell z 1; have f0 := blk_frozen z 0; have f1 := blk_frozen z 1; simp at z0 z1; clear z)
          | (go_at_call 59; refine Calls.mono (HS.out _) ?_; rintro e w1 ⟨rfl, hb1⟩; replace HA := Aside0.mk (HA.out.step hb1); clear HS hb1 x0 x1 x2 x3 x4 x5; obtain ⟨_, _, z, x0, x1, x2, x3, x4, x5⟩ := HA.out; (try clear z0 z1 f0 f1); have z0 := blk_cell z 0; have z1 := blk_cell z 1; have f0 := blk_frozen z 0; have f1 := blk_frozen z 1; simp at z0 z1; clear z))
      refine bodyPost_ret (results_cell_row rfl _ _ w.heap.size 37 #[.int .i64 _, .int .i64 _] (0, 0) _ rfl (blk_put (cs := #[.int .i64 _, .int .i64 0]) (blk_put (cs := #[.int .i64 0, .int .i64 0]) HA.out.z 0 _ rfl) 1 _ rfl) Tryd.underlying37 rfl (by kernel_rfl)) rfl ⟨rfl, below_set (below_set HA.out.below (Nat.le_refl _)) (Nat.le_refl _)⟩
end Go.Proofs.YtnnoegjgaelafaaDoor.Pr
