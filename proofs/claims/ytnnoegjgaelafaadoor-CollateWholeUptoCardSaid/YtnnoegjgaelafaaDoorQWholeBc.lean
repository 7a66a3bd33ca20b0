/- The program's span of a column: the part of the line that the document's Span names. The program's Count and Span of an order. The program's filter of a column: what of a text counts, small letters large. The program's Filter of an order. The document's Filter is filtK of the key's part. Pure. -/
import Derived.Laws.MakeOwn
import Derived.Test.YtnnoegjgaelafaaDoorQWholeAz
import Derived.Test.YtnnoegjgaelafaaDoorQWholeAw
import Derived.Test.YtnnoegjgaelafaaDoorQWholeBb
import Derived.Test.YtnnoegjgaelafaaDoorQWholeAb
namespace Go.Proofs.YtnnoegjgaelafaaDoor.Pr
open Go.RowKit Go.Proofs.YtnnoegjgaelafaaDoorW.PrintWords Go.Proofs.YtnnoegjgaelafaaDoorW.PrintLast
set_option linter.unusedVariables false
set_option linter.unusedSimpArgs false

/-- A key's cells stand at p. -/
structure KeyAt (w : World) (p : Addr) (k : Ky) : Prop where
  c0 : w.cell? p = some (.int .i64 k.f0)
  c1 : w.cell? ⟨p.block, p.off + 1, none⟩ = some (.int .i64 k.f1)
  c2 : w.cell? ⟨p.block, p.off + 2, none⟩ = some (.int .i64 k.f2)
  c3 : w.cell? ⟨p.block, p.off + 3, none⟩ = some (.int .i64 k.f3)
  c4 : w.cell? ⟨p.block, p.off + 4, none⟩ = some (.int .u16 k.f4)
  c5 : w.cell? ⟨p.block, p.off + 5, none⟩ = some (.bool k.f5)
theorem cell_stays {W w1 : World} {p : Addr} {v : Value} (hb : Below W.heap.size W w1) (hc : W.cell? p = some v) : w1.cell? p = some v := (hb.cell (World.block_lt_of_cell? W p hc)).trans hc
theorem KeyAt.keep {w w1 : World} {p : Addr} {k : Ky} (h : KeyAt w p k) (hb : Below w.heap.size w w1) : KeyAt w1 p k :=
  ⟨cell_stays hb h.c0, cell_stays hb h.c1, cell_stays hb h.c2, cell_stays hb h.c3, cell_stays hb h.c4, cell_stays hb h.c5⟩
theorem field_calls (s : ByteArray) (hs : s.size ≤ 1048576) (t : Int) (h2 : t ≤ 255) (n : Int) (a : 1 ≤ n) (b : n ≤ 2147483647) (W : World) :
    Calls Tryd.prog 58 #[.string s, .int .i64 n, .int .i64 t] W fun e w' => e = .returned (.tuple #[.int .i64 (placeFrom s t 0 (n - 1).toNat).1, .bool (placeFrom s t 0 (n - 1).toNat).2]) ∧ Below W.heap.size W w' := by
  obtain ⟨K, hK⟩ := field_prog s hs t h2 n a b
  exact collate_field.calls K s n t _ _ W (hK K (Nat.le_refl _))
theorem behind_calls (s : ByteArray) (hs : s.size ≤ 1048576) (t : Int) (h2 : t ≤ 255) (i : Nat) (hi : i ≤ s.size) (W : World) :
    Calls Tryd.prog 60 #[.string s, .int .i64 i, .int .i64 t] W fun e w' => e = .returned (.int .i64 (behindN s t i)) ∧ Below W.heap.size W w' :=
  collate_behind.calls s i t _ W (behind_some s (by omega) t h2 i hi)
/-- In the walk: the result's cell at w's end, the key's cells at p. -/
structure SpAt (w W : World) (p : Addr) (k0 k1 k2 k3 k4 : Int) (k5 : Bool) : Prop where
  below : Below w.heap.size w W
  size : w.heap.size < W.heap.size
  z : W.heap[w.heap.size]? = some (.cells #[.int .i64 0, .int .i64 0] 37 (0, 0))
  c0 : W.cell? p = some (.int .i64 k0)
  c1 : W.cell? ⟨p.block, p.off + 1, none⟩ = some (.int .i64 k1)
  c2 : W.cell? ⟨p.block, p.off + 2, none⟩ = some (.int .i64 k2)
  c3 : W.cell? ⟨p.block, p.off + 3, none⟩ = some (.int .i64 k3)
  c4 : W.cell? ⟨p.block, p.off + 4, none⟩ = some (.int .u16 k4)
  c5 : W.cell? ⟨p.block, p.off + 5, none⟩ = some (.bool k5)
theorem SpAt.step {w W w1 : World} {p : Addr} {k0 k1 k2 k3 k4 : Int} {k5 : Bool} (h : SpAt w W p k0 k1 k2 k3 k4 k5) (hb : Below W.heap.size W w1) : SpAt w w1 p k0 k1 k2 k3 k4 k5 :=
  ⟨below_step h.below hb, Nat.lt_of_lt_of_le h.size hb.size, (hb.block _ h.size).trans h.z, cell_stays hb h.c0, cell_stays hb h.c1, cell_stays hb h.c2, cell_stays hb h.c3, cell_stays hb h.c4, cell_stays hb h.c5⟩
theorem SpAt.first {w : World} {p : Addr} {k : Ky} (h : KeyAt w p k) : SpAt w (w.alloc (.cells #[.int .i64 0, .int .i64 0] 37)) p k.f0 k.f1 k.f2 k.f3 k.f4 k.f5 := by
  have hb : Below w.heap.size w (w.alloc (.cells #[.int .i64 0, .int .i64 0] 37)) := (Below.refl _ _).alloc (Nat.le_refl _) _
  have h := h.keep hb
  exact ⟨hb, by simp, heap_alloc_new _ _, h.c0, h.c1, h.c2, h.c3, h.c4, h.c5⟩
set_option maxHeartbeats 4000000 in
set_option maxRecDepth 100000 in
theorem span_calls (s : ByteArray) (hs : s.size ≤ 1048576) (t : Int) (h1 : -1 ≤ t) (h2 : t ≤ 255) (k : Ky) (hk : Fit k) (p : Addr) (w : World) (h : KeyAt w p k) :
    Calls Tryd.prog 33 #[.pointer (some p), .string s, .int .i64 t] w fun e w' => e = .returned (.agg #[.int .i64 (spanI s t k).1, .int .i64 (spanI s t k).2]) ∧ Below w.heap.size w w' := by
  have hu := Tryd.underlying33
  have hu2 := Tryd.underlying71
  have hu3 := Tryd.underlying37
  have HA := Aside0.mk (SpAt.first h)
  obtain ⟨k0, k1, k2, k3, k4, k5⟩ := k
  obtain ⟨a, b, c, d, e, f, g, hh⟩ := hk
  simp only at a b c d e f g hh HA
  have HF := Aside0.mk (fun W => field_calls s hs t h2 k0 a b W)
  have hP := place_le s t (k0 - 1).toNat 0 (Nat.zero_le _)
  have HS := Aside0.mk (fun W => skip_calls s true (placeFrom s t 0 (k0 - 1).toNat).1 W (by omega) hP)
  have hbl := beg_le s t k0 (modB k4)
  have hsp : spanI s t ⟨k0, k1, k2, k3, k4, k5⟩ = (min (s.size : Int) ((begN s t k0 (modB k4) : Nat) + k1 - 1), max (min (s.size : Int) ((begN s t k0 (modB k4) : Nat) + k1 - 1)) (toP s t ⟨k0, k1, k2, k3, k4, k5⟩)) := by rw [toP_eq s t h1 h2]; rfl
  rw [hsp]
  clear hsp
  have HF2 := Aside0.mk (fun (h : 1 ≤ k2) W => field_calls s hs t h2 k2 h f W)
  have hP2 := place_le s t (k2 - 1).toNat 0 (Nat.zero_le _)
  have HS2 := Aside0.mk (fun W => skip_calls s true (placeFrom s t 0 (k2 - 1).toNat).1 W (by omega) hP2)
  have HB2 := Aside0.mk (fun W => behind_calls s hs t h2 (placeFrom s t 0 (k2 - 1).toNat).1 hP2 W)
  have hbl2 := beg_le s t k2 k5
  unfold toP
  unfold begN at hbl hbl2 ⊢
  unfold modB at hbl ⊢
  simp only at hbl hbl2 ⊢
  clear h
  have hl2 : 1 ≤ k2 ∨ ¬ k2 > 0 := by omega
  generalize placeFrom s t 0 (k0 - 1).toNat = P at *
  generalize placeFrom s t 0 (k2 - 1).toNat = P' at *
  obtain ⟨P1, P2⟩ := P
  obtain ⟨Q1, Q2⟩ := P'
  simp only at hP HS HF hbl hP2 HF2 HS2 HB2 hbl2 ⊢
  by_cases q2 : k2 > 0
  · have hx2 : decide (0 < k2) = true := decide_eq_true q2
    rw [if_pos q2]
    have HF2 := Aside0.mk (HF2.out (by omega))
    clear q2 hl2
    by_cases q3 : k3 > 0
    · have hx3 : decide (0 < k3) = true := decide_eq_true q3
      rw [if_pos q3]
      clear HB2 q3
      cases k5
      · simp only [if_neg (by decide : ¬ false = true), Bool.false_eq_true, if_false] at hbl2 ⊢
        clear HS2
        cases hb : (bits .and .u16 k4 1 != 0)
        · rw [hb] at hbl
          simp only [if_neg (by decide : ¬ false = true), Bool.false_eq_true, if_false] at hbl ⊢
          go_enter Tryd.func33, Tryd.ntmps33
          go_upto_region 1 with (fail)
          obtain ⟨W0, hW0⟩ : ∃ W0 : World, W0 = w.alloc (.cells #[.int .i64 0, .int .i64 0] 37) := ⟨_, rfl⟩
          rw [← hW0] at HA ⊢
          clear hW0
          obtain ⟨_, _, _, x0, x1, x2, x3, x4, x5⟩ := HA.out
          go_wp2_with (first
              | (go_at_call 58; refine Calls.mono (HF.out _) ?_; rintro e w1 ⟨rfl, hb1⟩; replace HA := Aside0.mk (HA.out.step hb1); clear HF hb1 x0 x1 x2 x3 x4 x5; obtain ⟨_, _, z, x0, x1, x2, x3, x4, x5⟩ := HA.out; (try clear z0 z1 f0 f1); have z0 := blk_cell z 0; have z1 := blk_cell z 1; have f0 := blk_frozen z 0; have f1 := blk_frozen z 1; simp at z0 z1; clear z)
              | (go_at_call 58; refine Calls.mono (HF2.out _) ?_; rintro e w1 ⟨rfl, hb1⟩; replace HA := Aside0.mk (HA.out.step hb1); clear HF2 hb1 x0 x1 x2 x3 x4 x5; obtain ⟨_, _, z, x0, x1, x2, x3, x4, x5⟩ := HA.out; (try clear z0 z1 f0 f1); have z0 := blk_cell z 0; have z1 := blk_cell z 1; have f0 := blk_frozen z 0; have f1 := blk_frozen z 1; simp at z0 z1; clear z))
          refine bodyPost_ret (results_cell_row rfl _ _ w.heap.size 37 #[.int .i64 _, .int .i64 _] (0, 0) _ rfl (blk_put (cs := #[.int .i64 _, .int .i64 0]) (blk_put (cs := #[.int .i64 0, .int .i64 0]) HA.out.z 0 _ rfl) 1 _ rfl) Tryd.underlying37 rfl (by kernel_rfl)) rfl ⟨rfl, below_set (below_set HA.out.below (Nat.le_refl _)) (Nat.le_refl _)⟩
        · rw [hb] at hbl
          simp only [if_true] at hbl ⊢
          go_enter Tryd.func33, Tryd.ntmps33
          go_upto_region 1 with (fail)
          obtain ⟨W0, hW0⟩ : ∃ W0 : World, W0 = w.alloc (.cells #[.int .i64 0, .int .i64 0] 37) := ⟨_, rfl⟩
          rw [← hW0] at HA ⊢
          clear hW0
          obtain ⟨_, _, _, x0, x1, x2, x3, x4, x5⟩ := HA.out
          go_wp2_with (first
              | (go_at_call 58; refine Calls.mono (HF.out _) ?_; rintro e w1 ⟨rfl, hb1⟩; replace HA := Aside0.mk (HA.out.step hb1); clear HF hb1 x0 x1 x2 x3 x4 x5; obtain ⟨_, _, z, x0, x1, x2, x3, x4, x5⟩ := HA.out; (try clear z0 z1 f0 f1); have z0 := blk_cell z 0; have z1 := blk_cell z 1; have f0 := blk_frozen z 0; have f1 := blk_frozen z 1; simp at z0 z1; clear z)
              | (go_at_call 59; refine Calls.mono (HS.out _) ?_; rintro e w1 ⟨rfl, hb1⟩; replace HA := Aside0.mk (HA.out.step hb1); clear HS hb1 x0 x1 x2 x3 x4 x5; obtain ⟨_, _, z, x0, x1, x2, x3, x4, x5⟩ := HA.out; (try clear z0 z1 f0 f1); have z0 := blk_cell z 0; have z1 := blk_cell z 1; have f0 := blk_frozen z 0; have f1 := blk_frozen z 1; simp at z0 z1; clear z)
              | (go_at_call 58; refine Calls.mono (HF2.out _) ?_; rintro e w1 ⟨rfl, hb1⟩; replace HA := Aside0.mk (HA.out.step hb1); clear HF2 hb1 x0 x1 x2 x3 x4 x5; obtain ⟨_, _, z, x0, x1, x2, x3, x4, x5⟩ := HA.out; (try clear z0 z1 f0 f1); have z0 := blk_cell z 0; have z1 := blk_cell z 1; have f0 := blk_frozen z 0; have f1 := blk_frozen z 1; simp at z0 z1; clear z))
          refine bodyPost_ret (results_cell_row rfl _ _ w.heap.size 37 #[.int .i64 _, .int .i64 _] (0, 0) _ rfl (blk_put (cs := #[.int .i64 _, .int .i64 0]) (blk_put (cs := #[.int .i64 0, .int .i64 0]) HA.out.z 0 _ rfl) 1 _ rfl) Tryd.underlying37 rfl (by kernel_rfl)) rfl ⟨rfl, below_set (below_set HA.out.below (Nat.le_refl _)) (Nat.le_refl _)⟩
      · simp only [if_true] at hbl2 ⊢
        cases hb : (bits .and .u16 k4 1 != 0)
        · rw [hb] at hbl
          simp only [if_neg (by decide : ¬ false = true), Bool.false_eq_true, if_false] at hbl ⊢
          go_enter Tryd.func33, Tryd.ntmps33
          go_upto_region 1 with (fail)
          obtain ⟨W0, hW0⟩ : ∃ W0 : World, W0 = w.alloc (.cells #[.int .i64 0, .int .i64 0] 37) := ⟨_, rfl⟩
          rw [← hW0] at HA ⊢
          clear hW0
          obtain ⟨_, _, _, x0, x1, x2, x3, x4, x5⟩ := HA.out
          go_wp2_with (first
              | (go_at_call 58; refine Calls.mono (HF.out _) ?_; rintro e w1 ⟨rfl, hb1⟩; replace HA := Aside0.mk (HA.out.step hb1); clear HF hb1 x0 x1 x2 x3 x4 x5; obtain ⟨_, _, z, x0, x1, x2, x3, x4, x5⟩ := HA.out; (try clear z0 z1 f0 f1); have z0 := blk_cell z 0; have z1 := blk_cell z 1; have f0 := blk_frozen z 0; have f1 := blk_frozen z 1; simp at z0 z1; clear z)
              | (go_at_call 58; refine Calls.mono (HF2.out _) ?_; rintro e w1 ⟨rfl, hb1⟩; replace HA := Aside0.mk (HA.out.step hb1); clear HF2 hb1 x0 x1 x2 x3 x4 x5; obtain ⟨_, _, z, x0, x1, x2, x3, x4, x5⟩ := HA.out; (try clear z0 z1 f0 f1); have z0 := blk_cell z 0; have z1 := blk_cell z 1; have f0 := blk_frozen z 0; have f1 := blk_frozen z 1; simp at z0 z1; clear z)
              | (go_at_call 59; refine Calls.mono (HS2.out _) ?_; rintro e w1 ⟨rfl, hb1⟩; replace HA := Aside0.mk (HA.out.step hb1); clear HS2 hb1 x0 x1 x2 x3 x4 x5; obtain ⟨_, _, z, x0, x1, x2, x3, x4, x5⟩ := HA.out; (try clear z0 z1 f0 f1); have z0 := blk_cell z 0; have z1 := blk_cell z 1; have f0 := blk_frozen z 0; have f1 := blk_frozen z 1; simp at z0 z1; clear z))
          refine bodyPost_ret (results_cell_row rfl _ _ w.heap.size 37 #[.int .i64 _, .int .i64 _] (0, 0) _ rfl (blk_put (cs := #[.int .i64 _, .int .i64 0]) (blk_put (cs := #[.int .i64 0, .int .i64 0]) HA.out.z 0 _ rfl) 1 _ rfl) Tryd.underlying37 rfl (by kernel_rfl)) rfl ⟨rfl, below_set (below_set HA.out.below (Nat.le_refl _)) (Nat.le_refl _)⟩
        · rw [hb] at hbl
          simp only [if_true] at hbl ⊢
          go_enter Tryd.func33, Tryd.ntmps33
          go_upto_region 1 with (fail)
          obtain ⟨W0, hW0⟩ : ∃ W0 : World, W0 = w.alloc (.cells #[.int .i64 0, .int .i64 0] 37) := ⟨_, rfl⟩
          rw [← hW0] at HA ⊢
          clear hW0
          obtain ⟨_, _, _, x0, x1, x2, x3, x4, x5⟩ := HA.out
          go_wp2_with (first
              | (go_at_call 58; refine Calls.mono (HF.out _) ?_; rintro e w1 ⟨rfl, hb1⟩; replace HA := Aside0.mk (HA.out.step hb1); clear HF hb1 x0 x1 x2 x3 x4 x5; obtain ⟨_, _, z, x0, x1, x2, x3, x4, x5⟩ := HA.out; (try clear z0 z1 f0 f1); have z0 := blk_cell z 0; have z1 := blk_cell z 1; have f0 := blk_frozen z 0; have f1 := blk_frozen z 1; simp at z0 z1; clear z)
              | (go_at_call 59; refine Calls.mono (HS.out _) ?_; rintro e w1 ⟨rfl, hb1⟩; replace HA := Aside0.mk (HA.out.step hb1); clear HS hb1 x0 x1 x2 x3 x4 x5; obtain ⟨_, _, z, x0, x1, x2, x3, x4, x5⟩ := HA.out; (try clear z0 z1 f0 f1); have z0 := blk_cell z 0; have z1 := blk_cell z 1; have f0 := blk_frozen z 0; have f1 := blk_frozen z 1; simp at z0 z1; clear z)
              | (go_at_call 58; refine Calls.mono (HF2.out _) ?_; rintro e w1 ⟨rfl, hb1⟩; replace HA := Aside0.mk (HA.out.step hb1); clear HF2 hb1 x0 x1 x2 x3 x4 x5; obtain ⟨_, _, z, x0, x1, x2, x3, x4, x5⟩ := HA.out; (try clear z0 z1 f0 f1); have z0 := blk_cell z 0; have z1 := blk_cell z 1; have f0 := blk_frozen z 0; have f1 := blk_frozen z 1; simp at z0 z1; clear z)
              | (go_at_call 59; refine Calls.mono (HS2.out _) ?_; rintro e w1 ⟨rfl, hb1⟩; replace HA := Aside0.mk (HA.out.step hb1); clear HS2 hb1 x0 x1 x2 x3 x4 x5; obtain ⟨_, _, z, x0, x1, x2, x3, x4, x5⟩ := HA.out; (try clear z0 z1 f0 f1); have z0 := blk_cell z 0; have z1 := blk_cell z 1; have f0 := blk_frozen z 0; have f1 := blk_frozen z 1; simp at z0 z1; clear z))
          refine bodyPost_ret (results_cell_row rfl _ _ w.heap.size 37 #[.int .i64 _, .int .i64 _] (0, 0) _ rfl (blk_put (cs := #[.int .i64 _, .int .i64 0]) (blk_put (cs := #[.int .i64 0, .int .i64 0]) HA.out.z 0 _ rfl) 1 _ rfl) Tryd.underlying37 rfl (by kernel_rfl)) rfl ⟨rfl, below_set (below_set HA.out.below (Nat.le_refl _)) (Nat.le_refl _)⟩
    · have hx3 : decide (0 < k3) = false := decide_eq_false q3
      rw [if_neg q3]
      clear HS2 q3
      cases Q2
      · simp only [Bool.false_eq_true, if_false]
        clear HB2
        cases hb : (bits .and .u16 k4 1 != 0)
        · rw [hb] at hbl
          simp only [if_neg (by decide : ¬ false = true), Bool.false_eq_true, if_false] at hbl ⊢
          go_enter Tryd.func33, Tryd.ntmps33
          go_upto_region 1 with (fail)
          obtain ⟨W0, hW0⟩ : ∃ W0 : World, W0 = w.alloc (.cells #[.int .i64 0, .int .i64 0] 37) := ⟨_, rfl⟩
          rw [← hW0] at HA ⊢
          clear hW0
          obtain ⟨_, _, _, x0, x1, x2, x3, x4, x5⟩ := HA.out
          go_wp2_with (first
              | (go_at_call 58; refine Calls.mono (HF.out _) ?_; rintro e w1 ⟨rfl, hb1⟩; replace HA := Aside0.mk (HA.out.step hb1); clear HF hb1 x0 x1 x2 x3 x4 x5; obtain ⟨_, _, z, x0, x1, x2, x3, x4, x5⟩ := HA.out; (try clear z0 z1 f0 f1); have z0 := blk_cell z 0; have z1 := blk_cell z 1; have f0 := blk_frozen z 0; have f1 := blk_frozen z 1; simp at z0 z1; clear z)
              | (go_at_call 58; refine Calls.mono (HF2.out _) ?_; rintro e w1 ⟨rfl, hb1⟩; replace HA := Aside0.mk (HA.out.step hb1); clear HF2 hb1 x0 x1 x2 x3 x4 x5; obtain ⟨_, _, z, x0, x1, x2, x3, x4, x5⟩ := HA.out; (try clear z0 z1 f0 f1); have z0 := blk_cell z 0; have z1 := blk_cell z 1; have f0 := blk_frozen z 0; have f1 := blk_frozen z 1; simp at z0 z1; clear z))
          refine bodyPost_ret (results_cell_row rfl _ _ w.heap.size 37 #[.int .i64 _, .int .i64 _] (0, 0) _ rfl (blk_put (cs := #[.int .i64 _, .int .i64 0]) (blk_put (cs := #[.int .i64 0, .int .i64 0]) HA.out.z 0 _ rfl) 1 _ rfl) Tryd.underlying37 rfl (by kernel_rfl)) rfl ⟨rfl, below_set (below_set HA.out.below (Nat.le_refl _)) (Nat.le_refl _)⟩
        · rw [hb] at hbl
          simp only [if_true] at hbl ⊢
          go_enter Tryd.func33, Tryd.ntmps33
          go_upto_region 1 with (fail)
          obtain ⟨W0, hW0⟩ : ∃ W0 : World, W0 = w.alloc (.cells #[.int .i64 0, .int .i64 0] 37) := ⟨_, rfl⟩
          rw [← hW0] at HA ⊢
          clear hW0
          obtain ⟨_, _, _, x0, x1, x2, x3, x4, x5⟩ := HA.out
          go_wp2_with (first
              | (go_at_call 58; refine Calls.mono (HF.out _) ?_; rintro e w1 ⟨rfl, hb1⟩; replace HA := Aside0.mk (HA.out.step hb1); clear HF hb1 x0 x1 x2 x3 x4 x5; obtain ⟨_, _, z, x0, x1, x2, x3, x4, x5⟩ := HA.out; (try clear z0 z1 f0 f1); have z0 := blk_cell z 0; have z1 := blk_cell z 1; have f0 := blk_frozen z 0; have f1 := blk_frozen z 1; simp at z0 z1; clear z)
              | (go_at_call 59; refine Calls.mono (HS.out _) ?_; rintro e w1 ⟨rfl, hb1⟩; replace HA := Aside0.mk (HA.out.step hb1); clear HS hb1 x0 x1 x2 x3 x4 x5; obtain ⟨_, _, z, x0, x1, x2, x3, x4, x5⟩ := HA.out; (try clear z0 z1 f0 f1); have z0 := blk_cell z 0; have z1 := blk_cell z 1; have f0 := blk_frozen z 0; have f1 := blk_frozen z 1; simp at z0 z1; clear z)
              | (go_at_call 58; refine Calls.mono (HF2.out _) ?_; rintro e w1 ⟨rfl, hb1⟩; replace HA := Aside0.mk (HA.out.step hb1); clear HF2 hb1 x0 x1 x2 x3 x4 x5; obtain ⟨_, _, z, x0, x1, x2, x3, x4, x5⟩ := HA.out; (try clear z0 z1 f0 f1); have z0 := blk_cell z 0; have z1 := blk_cell z 1; have f0 := blk_frozen z 0; have f1 := blk_frozen z 1; simp at z0 z1; clear z))
          refine bodyPost_ret (results_cell_row rfl _ _ w.heap.size 37 #[.int .i64 _, .int .i64 _] (0, 0) _ rfl (blk_put (cs := #[.int .i64 _, .int .i64 0]) (blk_put (cs := #[.int .i64 0, .int .i64 0]) HA.out.z 0 _ rfl) 1 _ rfl) Tryd.underlying37 rfl (by kernel_rfl)) rfl ⟨rfl, below_set (below_set HA.out.below (Nat.le_refl _)) (Nat.le_refl _)⟩
      · simp only [if_true]
        cases hb : (bits .and .u16 k4 1 != 0)
        · rw [hb] at hbl
          simp only [if_neg (by decide : ¬ false = true), Bool.false_eq_true, if_false] at hbl ⊢
          go_enter Tryd.func33, Tryd.ntmps33
          go_upto_region 1 with (fail)
          obtain ⟨W0, hW0⟩ : ∃ W0 : World, W0 = w.alloc (.cells #[.int .i64 0, .int .i64 0] 37) := ⟨_, rfl⟩
          rw [← hW0] at HA ⊢
          clear hW0
          obtain ⟨_, _, _, x0, x1, x2, x3, x4, x5⟩ := HA.out
          go_wp2_with (first
              | (go_at_call 58; refine Calls.mono (HF.out _) ?_; rintro e w1 ⟨rfl, hb1⟩; replace HA := Aside0.mk (HA.out.step hb1); clear HF hb1 x0 x1 x2 x3 x4 x5; obtain ⟨_, _, z, x0, x1, x2, x3, x4, x5⟩ := HA.out; (try clear z0 z1 f0 f1); have z0 := blk_cell z 0; have z1 := blk_cell z 1; have f0 := blk_frozen z 0; have f1 := blk_frozen z 1; simp at z0 z1; clear z)
              | (go_at_call 58; refine Calls.mono (HF2.out _) ?_; rintro e w1 ⟨rfl, hb1⟩; replace HA := Aside0.mk (HA.out.step hb1); clear HF2 hb1 x0 x1 x2 x3 x4 x5; obtain ⟨_, _, z, x0, x1, x2, x3, x4, x5⟩ := HA.out; (try clear z0 z1 f0 f1); have z0 := blk_cell z 0; have z1 := blk_cell z 1; have f0 := blk_frozen z 0; have f1 := blk_frozen z 1; simp at z0 z1; clear z)
              | (go_at_call 60; refine Calls.mono (HB2.out _) ?_; rintro e w1 ⟨rfl, hb1⟩; replace HA := Aside0.mk (HA.out.step hb1); clear HB2 hb1 x0 x1 x2 x3 x4 x5; obtain ⟨_, _, z, x0, x1, x2, x3, x4, x5⟩ := HA.out; (try clear z0 z1 f0 f1); have z0 := blk_cell z 0; have z1 := blk_cell z 1; have f0 := blk_frozen z 0; have f1 := blk_frozen z 1; simp at z0 z1; clear z))
          refine bodyPost_ret (results_cell_row rfl _ _ w.heap.size 37 #[.int .i64 _, .int .i64 _] (0, 0) _ rfl (blk_put (cs := #[.int .i64 _, .int .i64 0]) (blk_put (cs := #[.int .i64 0, .int .i64 0]) HA.out.z 0 _ rfl) 1 _ rfl) Tryd.underlying37 rfl (by kernel_rfl)) rfl ⟨rfl, below_set (below_set HA.out.below (Nat.le_refl _)) (Nat.le_refl _)⟩
        · rw [hb] at hbl
          simp only [if_true] at hbl ⊢
          go_enter Tryd.func33, Tryd.ntmps33
          go_upto_region 1 with (fail)
          obtain ⟨W0, hW0⟩ : ∃ W0 : World, W0 = w.alloc (.cells #[.int .i64 0, .int .i64 0] 37) := ⟨_, rfl⟩
          rw [← hW0] at HA ⊢
          clear hW0
          obtain ⟨_, _, _, x0, x1, x2, x3, x4, x5⟩ := HA.out
          go_wp2_with (first
              | (go_at_call 58; refine Calls.mono (HF.out _) ?_; rintro e w1 ⟨rfl, hb1⟩; replace HA := Aside0.mk (HA.out.step hb1); clear HF hb1 x0 x1 x2 x3 x4 x5; obtain ⟨_, _, z, x0, x1, x2, x3, x4, x5⟩ := HA.out; (try clear z0 z1 f0 f1); have z0 := blk_cell z 0; have z1 := blk_cell z 1; have f0 := blk_frozen z 0; have f1 := blk_frozen z 1; simp at z0 z1; clear z)
              | (go_at_call 59; refine Calls.mono (HS.out _) ?_; rintro e w1 ⟨rfl, hb1⟩; replace HA := Aside0.mk (HA.out.step hb1); clear HS hb1 x0 x1 x2 x3 x4 x5; obtain ⟨_, _, z, x0, x1, x2, x3, x4, x5⟩ := HA.out; (try clear z0 z1 f0 f1); have z0 := blk_cell z 0; have z1 := blk_cell z 1; have f0 := blk_frozen z 0; have f1 := blk_frozen z 1; simp at z0 z1; clear z)
              | (go_at_call 58; refine Calls.mono (HF2.out _) ?_; rintro e w1 ⟨rfl, hb1⟩; replace HA := Aside0.mk (HA.out.step hb1); clear HF2 hb1 x0 x1 x2 x3 x4 x5; obtain ⟨_, _, z, x0, x1, x2, x3, x4, x5⟩ := HA.out; (try clear z0 z1 f0 f1); have z0 := blk_cell z 0; have z1 := blk_cell z 1; have f0 := blk_frozen z 0; have f1 := blk_frozen z 1; simp at z0 z1; clear z)
              | (go_at_call 60; refine Calls.mono (HB2.out _) ?_; rintro e w1 ⟨rfl, hb1⟩; replace HA := Aside0.mk (HA.out.step hb1); clear HB2 hb1 x0 x1 x2 x3 x4 x5; obtain ⟨_, _, z, x0, x1, x2, x3, x4, x5⟩ := HA.out; (try clear z0 z1 f0 f1); have z0 := blk_cell z 0; have z1 := blk_cell z 1; have f0 := blk_frozen z 0; have f1 := blk_frozen z 1; simp at z0 z1; clear z))
          refine bodyPost_ret (results_cell_row rfl _ _ w.heap.size 37 #[.int .i64 _, .int .i64 _] (0, 0) _ rfl (blk_put (cs := #[.int .i64 _, .int .i64 0]) (blk_put (cs := #[.int .i64 0, .int .i64 0]) HA.out.z 0 _ rfl) 1 _ rfl) Tryd.underlying37 rfl (by kernel_rfl)) rfl ⟨rfl, below_set (below_set HA.out.below (Nat.le_refl _)) (Nat.le_refl _)⟩
  · have hx2 : decide (0 < k2) = false := decide_eq_false q2
    rw [if_neg q2]
    clear HF2 HS2 HB2 hP2 hbl2 q2
    cases hb : (bits .and .u16 k4 1 != 0)
    · rw [hb] at hbl
      simp only [if_neg (by decide : ¬ false = true), Bool.false_eq_true, if_false] at hbl ⊢
      go_enter Tryd.func33, Tryd.ntmps33
      go_upto_region 1 with (fail)
      obtain ⟨W0, hW0⟩ : ∃ W0 : World, W0 = w.alloc (.cells #[.int .i64 0, .int .i64 0] 37) := ⟨_, rfl⟩
      rw [← hW0] at HA ⊢
      clear hW0
      obtain ⟨_, _, _, x0, x1, x2, x3, x4, x5⟩ := HA.out
      go_wp2_with (first
          | (go_at_call 58; refine Calls.mono (HF.out _) ?_; rintro e w1 ⟨rfl, hb1⟩; replace HA := Aside0.mk (HA.out.step hb1); clear HF hb1 x0 x1 x2 x3 x4 x5; obtain ⟨_, _, z, x0, x1, x2, x3, x4, x5⟩ := HA.out; (try clear z0 z1 f0 f1); have z0 := blk_cell z 0; have z1 := blk_cell z 1; have f0 := blk_frozen z 0; have f1 := blk_frozen z 1; simp at z0 z1; clear z))
      refine bodyPost_ret (results_cell_row rfl _ _ w.heap.size 37 #[.int .i64 _, .int .i64 _] (0, 0) _ rfl (blk_put (cs := #[.int .i64 _, .int .i64 0]) (blk_put (cs := #[.int .i64 0, .int .i64 0]) HA.out.z 0 _ rfl) 1 _ rfl) Tryd.underlying37 rfl (by kernel_rfl)) rfl ⟨rfl, below_set (below_set HA.out.below (Nat.le_refl _)) (Nat.le_refl _)⟩
    · rw [hb] at hbl
      simp only [if_true] at hbl ⊢
      go_enter Tryd.func33, Tryd.ntmps33
      go_upto_region 1 with (fail)
      obtain ⟨W0, hW0⟩ : ∃ W0 : World, W0 = w.alloc (.cells #[.int .i64 0, .int .i64 0] 37) := ⟨_, rfl⟩
      rw [← hW0] at HA ⊢
      clear hW0
      obtain ⟨_, _, _, x0, x1, x2, x3, x4, x5⟩ := HA.out
      go_wp2_with (first
          | (go_at_call 58; refine Calls.mono (HF.out _) ?_; rintro e w1 ⟨rfl, hb1⟩; replace HA := Aside0.mk (HA.out.step hb1); clear HF hb1 x0 x1 x2 x3 x4 x5; obtain ⟨_, _, z, x0, x1, x2, x3, x4, x5⟩ := HA.out; (try clear z0 z1 f0 f1); have z0 := blk_cell z 0; have z1 := blk_cell z 1; have f0 := blk_frozen z 0; have f1 := blk_frozen z 1; simp at z0 z1; clear z)
          | (go_at_call 59; refine Calls.mono (HS.out _) ?_; rintro e w1 ⟨rfl, hb1⟩; replace HA := Aside0.mk (HA.out.step hb1); clear HS hb1 x0 x1 x2 x3 x4 x5; obtain ⟨_, _, z, x0, x1, x2, x3, x4, x5⟩ := HA.out; (try clear z0 z1 f0 f1); have z0 := blk_cell z 0; have z1 := blk_cell z 1; have f0 := blk_frozen z 0; have f1 := blk_frozen z 1; simp at z0 z1; clear z))
      refine bodyPost_ret (results_cell_row rfl _ _ w.heap.size 37 #[.int .i64 _, .int .i64 _] (0, 0) _ rfl (blk_put (cs := #[.int .i64 _, .int .i64 0]) (blk_put (cs := #[.int .i64 0, .int .i64 0]) HA.out.z 0 _ rfl) 1 _ rfl) Tryd.underlying37 rfl (by kernel_rfl)) rfl ⟨rfl, below_set (below_set HA.out.below (Nat.le_refl _)) (Nat.le_refl _)⟩
end Go.Proofs.YtnnoegjgaelafaaDoor.Pr
namespace Go.Proofs.YtnnoegjgaelafaaDoor.Pr
open Go.RowKit Go.Proofs.YtnnoegjgaelafaaDoorW.PrintWords Go.Proofs.YtnnoegjgaelafaaDoorW.PrintLast
set_option linter.unusedVariables false
set_option linter.unusedSimpArgs false

def zKy : Ky := z33
def zCol : Col := ⟨zKy, false, 0, 0⟩
/-- A column's cells stand at p. -/
structure ColAt (w : World) (p : Addr) (c : Col) : Prop where
  key : KeyAt w p c.key
  filt : w.cell? ⟨p.block, p.off + 6, none⟩ = some (.bool c.filt)
  cmp : w.cell? ⟨p.block, p.off + 7, none⟩ = some (.func (.func 53) #[] #[.pointer (some ⟨c.kb, 0, none⟩)])
  emb : w.cell? ⟨p.block, p.off + 8, none⟩ = some (.func (.func 55) #[] #[.pointer (some ⟨c.kb, 0, none⟩)])
  kind : w.cell? ⟨c.kb, 0, none⟩ = some (.int .u16 c.kind)
theorem at_Col {w : World} {A : Option Addr} {n : Nat} {cols : List Col} (h : Kd.C kCol w A n cols) (i : Nat) (h1 : i < n) : ∃ ad, A = some ad ∧ ColAt w (ad.add (i * 9)) (cols.getD i zCol) := by
  obtain ⟨ad, c, e, _, hK, hc0⟩ := Kd.C_get h zCol (i : Int) (by omega) (by omega)
  have hc : ∀ j u, c[j]? = some u → w.cell? (ad.add (i * 9 + j)) = some u := hc0
  obtain ⟨hcs, hh⟩ := hK
  simp only [Int.toNat_natCast] at hcs hh
  generalize cols.getD i zCol = x at hcs hh ⊢
  subst hcs
  refine ⟨ad, e, ⟨hc 0 _ rfl, ?_, ?_, ?_, ?_, ?_⟩, ?_, ?_, ?_, ?_⟩
  · rw [← add_field _ _ 1 (by omega)]; exact hc 1 _ rfl
  · rw [← add_field _ _ 2 (by omega)]; exact hc 2 _ rfl
  · rw [← add_field _ _ 3 (by omega)]; exact hc 3 _ rfl
  · rw [← add_field _ _ 4 (by omega)]; exact hc 4 _ rfl
  · rw [← add_field _ _ 5 (by omega)]; exact hc 5 _ rfl
  · rw [← add_field _ _ 6 (by omega)]; exact hc 6 _ rfl
  · rw [← add_field _ _ 7 (by omega)]; exact hc 7 _ rfl
  · rw [← add_field _ _ 8 (by omega)]; exact hc 8 _ rfl
  · unfold Col.holds at hh
    unfold World.cell?
    rw [hh]; rfl
theorem ColAt.keep {w w1 : World} {p : Addr} {c : Col} (h : ColAt w p c) (hb : Below w.heap.size w w1) : ColAt w1 p c :=
  ⟨h.key.keep hb, cell_stays hb h.filt, cell_stays hb h.cmp, cell_stays hb h.emb, cell_stays hb h.kind⟩
theorem ColsOf.len {cols : List Col} {K : List Ky} (h : ColsOf cols K) : cols.length = K.length := by have := congrArg List.length h; simpa using this
theorem ColsOf.at {cols : List Col} {K : List Ky} (h : ColsOf cols K) (i : Nat) (hi : i < K.length) : (cols.getD i zCol).key = K.getD i zKy ∧ (cols.getD i zCol).filt = (bits .and .u16 (kindI (K.getD i zKy)) 240 == 0) ∧ (cols.getD i zCol).kind = kindI (K.getD i zKy) := by
  have hl := h.len
  have e := congrArg (fun l => l[i]?) h
  simp only [List.getElem?_map, List.getElem?_eq_getElem hi, List.getElem?_eq_getElem (hl ▸ hi : i < cols.length), Option.map_some, Option.some.injEq, Prod.mk.injEq] at e
  simp only [List.getD_eq_getElem?_getD, List.getElem?_eq_getElem hi, List.getElem?_eq_getElem (hl ▸ hi : i < cols.length), Option.getD_some]
  exact e
/-- An order's cells. -/
theorem ord_cells {w : World} {g : Nat} {K : List Ky} {t : Int} {last turned : Bool} (h : OrdW w g K t last turned) : ∃ A c cols, w.cell? ⟨g, 0, none⟩ = some (.slice A K.length c) ∧ w.cell? ⟨g, 1, none⟩ = some (.int .i64 t) ∧ w.cell? ⟨g, 2, none⟩ = some (.bool last) ∧ w.cell? ⟨g, 3, none⟩ = some (.bool turned) ∧ K.length ≤ c ∧ Kd.C kCol w A K.length cols ∧ ColsOf cols K := by
  obtain ⟨v, cols, h1, h3, h4⟩ := h
  obtain ⟨A, c, rfl, h2, h5⟩ := Kd.R_reads h3
  rw [h4.len] at h1 h2 h5
  refine ⟨A, c, cols, ?_⟩
  exact ⟨blk_cell h1 0, blk_cell h1 1, blk_cell h1 2, blk_cell h1 3, h2, h5, h4⟩
end Go.Proofs.YtnnoegjgaelafaaDoor.Pr
namespace Go.Proofs.YtnnoegjgaelafaaDoor.Pr
open Go.RowKit Go.Proofs.YtnnoegjgaelafaaDoorW.PrintWords Go.Proofs.YtnnoegjgaelafaaDoorW.PrintLast
set_option linter.unusedVariables false
set_option linter.unusedSimpArgs false

def nums (s : ByteArray) : List Int := s.data.toList.map fun b => (b.toNat : Int)
def keepB (d i : Bool) (x : Int) : Bool := if d then (x == 32 || x == 9 || (decide (48 ≤ x) && decide (x ≤ 57)) || (decide (65 ≤ x) && decide (x ≤ 90)) || (decide (97 ≤ x) && decide (x ≤ 122))) else if i then (decide (32 ≤ x) && decide (x ≤ 126)) else true
def foldB (f : Bool) (x : Int) : Int := if f && decide (97 ≤ x) && decide (x ≤ 122) then x - 32 else x
def filtL (d i f : Bool) (l : List Int) : List Int := (l.filter (keepB d i)).map (foldB f)
def filtS (d i f : Bool) (s : ByteArray) : ByteArray := strOfNums (filtL d i f (nums s))
theorem nums_length (s : ByteArray) : (nums s).length = s.size := by simp [nums]
theorem nums_at (s : ByteArray) (i : Nat) (h : i < s.size) : (nums s)[i]? = some ((s[i].toNat : Nat) : Int) := by
  unfold nums
  rw [List.getElem?_map, Array.getElem?_toList, Array.getElem?_eq_getElem (by exact h)]; rfl
theorem take_nums (s : ByteArray) (i : Nat) (h : i < s.size) : (nums s).take (i + 1) = (nums s).take i ++ [((s[i].toNat : Nat) : Int)] := by
  rw [List.take_add_one, nums_at s i h]; rfl
theorem filt_keep (d i f : Bool) (l : List Int) (x : Int) (h : keepB d i x = true) : filtL d i f (l ++ [x]) = filtL d i f l ++ [foldB f x] := by
  simp [filtL, List.filter_append, h]
theorem filt_drop (d i f : Bool) (l : List Int) (x : Int) (h : keepB d i x = false) : filtL d i f (l ++ [x]) = filtL d i f l := by
  simp [filtL, List.filter_append, h]
theorem filt_none (l : List Int) : filtL false false false l = l := by
  have h2 : foldB false = id := by funext x; simp [foldB]
  unfold filtL
  rw [h2, List.map_id]
  exact List.filter_eq_self.2 (fun x _ => rfl)
theorem strOf_nums (s : ByteArray) : strOfNums (nums s) = s := by
  apply ByteArray.ext
  apply Array.toList_inj.1
  rw [strOfNums_data]
  unfold nums
  rw [List.map_map]
  conv => rhs; rw [← List.map_id s.data.toList]
  apply List.map_congr_left
  intro b _
  simp
theorem filt_len (d i f : Bool) (l : List Int) : (filtL d i f l).length ≤ l.length := by
  unfold filtL; rw [List.length_map]; exact List.length_filter_le _ _
theorem cls_dict : ∀ c : Fin 256, (bits .and .u8 (cls (c.val : Int)) 3 == 0) = !keepB true false (c.val : Int) := by decide +kernel
theorem cls_print : ∀ c : Fin 256, (bits .and .u8 (cls (c.val : Int)) 4 == 0) = !keepB false true (c.val : Int) := by decide +kernel
theorem make_bytes (n : Nat) (hn : n ≤ 1048576) : ∃ M : Array Value, M.size = n ∧ ∀ W : World, (Instr.makeSlice 75 (.int .i64 0) (.int .i64 (n : Int))).run Tryd.prog W = .ok (.slice (some ⟨W.heap.size, 0, none⟩) 0 n) (W.alloc (.cells M 5)) := by
  have hi : (Tryd.prog.info? 5).map (fun i => (i.zero, i.size, i.bytes)) = some (some (.int .u8 0), 1, 1) := by kernel_rfl
  obtain ⟨i0, hi0, hz⟩ := Option.map_eq_some_iff.1 hi
  simp only [Prod.mk.injEq] at hz
  obtain ⟨hz0, hz1, hz2⟩ := hz
  refine ⟨madeCells (Value.int .u8 0).cells (((n : Nat) : Int).toNat * i0.size), by rw [size_madeCells, hz1]; simp, fun W => ?_⟩
  have h := run_make (P := Tryd.prog) W 75 5 i0 (.int .u8 0) Tryd.underlying75 hi0 hz0 .i64 .i64 0 (n : Int) (by omega) (by omega) (by rw [hz2]; omega) (by omega)
  simpa using h
theorem made_R (w : World) (M : Array Value) (n : Nat) (hM : M.size = n) (hn : n ≤ 1048576) : Kd.R (Kd.int .u8) 5 (w.alloc (.cells M 5)) w.heap.size (fun _ => True) (.slice (some ⟨w.heap.size, 0, none⟩) 0 n) [] :=
  ⟨fun _ _ => trivial, [], ⟨by simp, .inr ⟨w.heap.size, n, M, rfl, Nat.le_refl _, heap_alloc_new _ _, Nat.zero_le _, by have : maxLen = 9223372036854775807 := rfl; omega, by rw [hM]; exact (Nat.mul_one n).symm, by simp⟩⟩, Reps.none _ _⟩
theorem infoB : (Tryd.prog.info? 5).map (fun i => (i.zero, i.size, i.bytes)) = some (some (.int .u8 0), 1, 1) := by kernel_rfl
set_option maxHeartbeats 4000000 in
set_option maxRecDepth 100000 in
theorem filter_000 (s : ByteArray) (hs : s.size ≤ 1048576) (k4 : Int) (p : Addr) (w : World) (x4 : w.cell? ⟨p.block, p.off + 4, none⟩ = some (.int .u16 k4)) (hd : (bits .and .u16 k4 2 != 0) = false) (hi : (bits .and .u16 k4 8 != 0) = false) (hf : (bits .and .u16 k4 4 != 0) = false) :
    Calls Tryd.prog 39 #[.pointer (some p), .string s] w fun e w' => e = .returned (.string (filtS false false false s)) ∧ Below w.heap.size w w' := by
  have hu := Tryd.underlying33
  have hu2 := Tryd.underlying71
  go_enter Tryd.func39, Tryd.ntmps39
  go_wp2
  go_ret
  exact ⟨by unfold filtS; rw [filt_none, strOf_nums]; rfl, Below.refl _ _⟩
set_option maxHeartbeats 4000000 in
set_option maxRecDepth 100000 in
theorem filter_1x0 (s : ByteArray) (hs : s.size ≤ 1048576) (k4 : Int) (p : Addr) (w : World) (x4 : w.cell? ⟨p.block, p.off + 4, none⟩ = some (.int .u16 k4)) (hd : (bits .and .u16 k4 2 != 0) = true) (hf : (bits .and .u16 k4 4 != 0) = false) :
    Calls Tryd.prog 39 #[.pointer (some p), .string s] w fun e w' => e = .returned (.string (filtS true false false s)) ∧ Below w.heap.size w w' := by
  have hu := Tryd.underlying33
  have hu2 := Tryd.underlying71
  obtain ⟨M, hM, hmk⟩ := make_bytes s.size hs
  have HR0 := Aside0.mk (made_R w M s.size hM hs)
  have HB0 : Aside0 (Below w.heap.size w (w.alloc (.cells M 5))) := ⟨(Below.refl _ _).alloc (Nat.le_refl _) _⟩
  clear hM
  go_enter Tryd.func39, Tryd.ntmps39
  go_wp2
  clear x4 hd hf  hmk
  go_loopw [7, 45] (fun v7 v45 wr => ∃ (i : Nat) (xs : List Int), v45 = .int .i64 i ∧ i ≤ s.size ∧ Aside0 (Kd.R (Kd.int .u8) 5 wr w.heap.size (fun _ => True) v7 xs) ∧ Aside0 (xs = filtL true false false ((nums s).take i)) ∧ Aside0 (Below w.heap.size w wr)) (fun _ v45 _ => s.size - (intOf v45).toNat)
  case atStart => exact ⟨0, [], rfl, Nat.zero_le _, HR0, ⟨rfl⟩, HB0⟩
  case round =>
    clear HR0 HB0
    obtain ⟨i, xs, rfl, hi, HR, HX, HB⟩ := hrel
    have HL : Aside0 (xs.length ≤ 1048576) := ⟨by rw [HX.out]; have h1 := filt_len true false false ((nums s).take i); rw [List.length_take] at h1; omega⟩
    by_cases hlt : i < s.size
    · have hc : (s[i].toNat) < 256 := s[i].toNat_lt
      have HLT := Aside0.mk hlt
      have HT := Aside0.mk (take_nums s i hlt)
      have hd : decide (i < s.size) = true := decide_eq_true hlt
      obtain ⟨v, hv⟩ : ∃ v, cls ((s[i].toNat : Nat) : Int) = v := ⟨_, rfl⟩
      have hix := run_cls s[i].toNat hc v hv
      have hba := cls_dict ⟨s[i].toNat, hc⟩
      simp only [hv] at hba
      clear hv
      cases hkp : keepB true false ((s[i].toNat : Nat) : Int)
      · rw [hkp] at hba
        have HKp := Aside0.mk hkp
        clear hkp
        simp only [Bool.not_false] at hba
        go_wp2_with (first
            | (go_at_call 63; refine Calls.mono (classes_calls _) ?_; rintro e w' ⟨rfl, hb⟩; replace HR := Aside0.mk (Kd.R_below HR.out hb); replace HB := Aside0.mk (below_step HB.out hb); clear hb))
        exact ⟨⟨i + 1, xs, by go_num, HLT.out, HR, ⟨by rw [HT.out, filt_drop _ _ _ _ _ HKp.out, ← HX.out]⟩, HB⟩, by simp [intOf]; omega⟩
      · rw [hkp] at hba
        have HKp := Aside0.mk hkp
        clear hkp
        simp only [Bool.not_true] at hba
        go_wp2_with (first
            | (go_at_call 63; refine Calls.mono (classes_calls _) ?_; rintro e w' ⟨rfl, hb⟩; replace HR := Aside0.mk (Kd.R_below HR.out hb); replace HB := Aside0.mk (below_step HB.out hb); clear hb)
            | (at_builtin; refine Kd.R_append (Kd.int .u8) (w0 := w) w.heap.size rfl (.tmp 72) (.tmp 74) 75 5 (.int .u8 0) 1 rfl Tryd.underlying75 infoB rfl (by decide) (by omega) _ xs _ [.int .u8 _] (fun _ => True) (fun _ => False) rfl rfl rfl (fun _ hk => hk.elim) (fun _ _ => trivial) (by (with_reducible repeat (first | apply Kd.R_alloc | apply Kd.R_drewN | apply Kd.R_drew)); exact HR.out) (by repeat (first | (with_reducible first | exact HB.out | apply below_alloc | apply pw_below_drewN | apply below_drew1) | exact HB.out)) (below_size (by repeat (first | (with_reducible first | exact HB.out | apply below_alloc | apply pw_below_drewN | apply below_drew1) | exact HB.out))) (by have := HL.out; omega) ?_; intro v1 w1 ho hb hg hat; replace HR := Aside0.mk ho; replace HB := Aside0.mk hb; clear ho hb hg hat))
        have hfo : foldB false ((s[i].toNat : Nat) : Int) = ((s[i].toNat : Nat) : Int) := by simp [foldB]
        exact ⟨⟨i + 1, _, by go_num, HLT.out, HR, ⟨by rw [HT.out, filt_keep _ _ _ _ _ HKp.out, hfo, ← HX.out]⟩, HB⟩, by simp [intOf]; omega⟩
    · have hd : decide (i < s.size) = false := decide_eq_false hlt
      have hge : i = s.size := by omega
      subst hge
      have hcv := own_string (P := Tryd.prog) Tryd.underlying75 Tryd.underlying5 Tryd.underlying9 (Kd.own_of_R HR.out)
      go_wp2
      go_ret
      exact ⟨by unfold filtS; rw [HX.out, List.take_of_length_le (by rw [nums_length]; exact Nat.le_refl _)]; rfl, by repeat (first | (with_reducible first | exact HB.out | apply below_alloc | apply pw_below_drewN | apply below_drew1) | exact HB.out)⟩
set_option maxHeartbeats 4000000 in
set_option maxRecDepth 100000 in
theorem filter_1x1 (s : ByteArray) (hs : s.size ≤ 1048576) (k4 : Int) (p : Addr) (w : World) (x4 : w.cell? ⟨p.block, p.off + 4, none⟩ = some (.int .u16 k4)) (hd : (bits .and .u16 k4 2 != 0) = true) (hf : (bits .and .u16 k4 4 != 0) = true) :
    Calls Tryd.prog 39 #[.pointer (some p), .string s] w fun e w' => e = .returned (.string (filtS true false true s)) ∧ Below w.heap.size w w' := by
  have hu := Tryd.underlying33
  have hu2 := Tryd.underlying71
  obtain ⟨M, hM, hmk⟩ := make_bytes s.size hs
  have HR0 := Aside0.mk (made_R w M s.size hM hs)
  have HB0 : Aside0 (Below w.heap.size w (w.alloc (.cells M 5))) := ⟨(Below.refl _ _).alloc (Nat.le_refl _) _⟩
  clear hM
  go_enter Tryd.func39, Tryd.ntmps39
  go_wp2
  clear x4 hd hf  hmk
  go_loopw [7, 45] (fun v7 v45 wr => ∃ (i : Nat) (xs : List Int), v45 = .int .i64 i ∧ i ≤ s.size ∧ Aside0 (Kd.R (Kd.int .u8) 5 wr w.heap.size (fun _ => True) v7 xs) ∧ Aside0 (xs = filtL true false true ((nums s).take i)) ∧ Aside0 (Below w.heap.size w wr)) (fun _ v45 _ => s.size - (intOf v45).toNat)
  case atStart => exact ⟨0, [], rfl, Nat.zero_le _, HR0, ⟨rfl⟩, HB0⟩
  case round =>
    clear HR0 HB0
    obtain ⟨i, xs, rfl, hi, HR, HX, HB⟩ := hrel
    have HL : Aside0 (xs.length ≤ 1048576) := ⟨by rw [HX.out]; have h1 := filt_len true false true ((nums s).take i); rw [List.length_take] at h1; omega⟩
    by_cases hlt : i < s.size
    · have hc : (s[i].toNat) < 256 := s[i].toNat_lt
      have HLT := Aside0.mk hlt
      have HT := Aside0.mk (take_nums s i hlt)
      have hd : decide (i < s.size) = true := decide_eq_true hlt
      obtain ⟨v, hv⟩ : ∃ v, cls ((s[i].toNat : Nat) : Int) = v := ⟨_, rfl⟩
      have hix := run_cls s[i].toNat hc v hv
      have hba := cls_dict ⟨s[i].toNat, hc⟩
      simp only [hv] at hba
      clear hv
      cases hkp : keepB true false ((s[i].toNat : Nat) : Int)
      · rw [hkp] at hba
        have HKp := Aside0.mk hkp
        clear hkp
        simp only [Bool.not_false] at hba
        go_wp2_with (first
            | (go_at_call 63; refine Calls.mono (classes_calls _) ?_; rintro e w' ⟨rfl, hb⟩; replace HR := Aside0.mk (Kd.R_below HR.out hb); replace HB := Aside0.mk (below_step HB.out hb); clear hb))
        exact ⟨⟨i + 1, xs, by go_num, HLT.out, HR, ⟨by rw [HT.out, filt_drop _ _ _ _ _ HKp.out, ← HX.out]⟩, HB⟩, by simp [intOf]; omega⟩
      · rw [hkp] at hba
        have HKp := Aside0.mk hkp
        clear hkp
        simp only [Bool.not_true] at hba
        by_cases ha : 97 ≤ s[i].toNat
        · have hxa : decide (97 ≤ s[i].toNat) = true := decide_eq_true ha
          by_cases hz : s[i].toNat ≤ 122
          · have hxz : decide (s[i].toNat ≤ 122) = true := decide_eq_true hz
            go_wp2_with (first
                | (go_at_call 63; refine Calls.mono (classes_calls _) ?_; rintro e w' ⟨rfl, hb⟩; replace HR := Aside0.mk (Kd.R_below HR.out hb); replace HB := Aside0.mk (below_step HB.out hb); clear hb)
                | (at_builtin; refine Kd.R_append (Kd.int .u8) (w0 := w) w.heap.size rfl (.tmp 72) (.tmp 74) 75 5 (.int .u8 0) 1 rfl Tryd.underlying75 infoB rfl (by decide) (by omega) _ xs _ [.int .u8 _] (fun _ => True) (fun _ => False) rfl rfl rfl (fun _ hk => hk.elim) (fun _ _ => trivial) (by (with_reducible repeat (first | apply Kd.R_alloc | apply Kd.R_drewN | apply Kd.R_drew)); exact HR.out) (by repeat (first | (with_reducible first | exact HB.out | apply below_alloc | apply pw_below_drewN | apply below_drew1) | exact HB.out)) (below_size (by repeat (first | (with_reducible first | exact HB.out | apply below_alloc | apply pw_below_drewN | apply below_drew1) | exact HB.out))) (by have := HL.out; omega) ?_; intro v1 w1 ho hb hg hat; replace HR := Aside0.mk ho; replace HB := Aside0.mk hb; clear ho hb hg hat))
            have hfo : foldB true ((s[i].toNat : Nat) : Int) = ((s[i].toNat : Nat) : Int) - 32 := by simp [foldB]; omega
            exact ⟨⟨i + 1, _, by go_num, HLT.out, HR, ⟨by rw [HT.out, filt_keep _ _ _ _ _ HKp.out, hfo, ← HX.out]⟩, HB⟩, by simp [intOf]; omega⟩
          · have hxz : decide (s[i].toNat ≤ 122) = false := decide_eq_false hz
            go_wp2_with (first
                | (go_at_call 63; refine Calls.mono (classes_calls _) ?_; rintro e w' ⟨rfl, hb⟩; replace HR := Aside0.mk (Kd.R_below HR.out hb); replace HB := Aside0.mk (below_step HB.out hb); clear hb)
                | (at_builtin; refine Kd.R_append (Kd.int .u8) (w0 := w) w.heap.size rfl (.tmp 72) (.tmp 74) 75 5 (.int .u8 0) 1 rfl Tryd.underlying75 infoB rfl (by decide) (by omega) _ xs _ [.int .u8 _] (fun _ => True) (fun _ => False) rfl rfl rfl (fun _ hk => hk.elim) (fun _ _ => trivial) (by (with_reducible repeat (first | apply Kd.R_alloc | apply Kd.R_drewN | apply Kd.R_drew)); exact HR.out) (by repeat (first | (with_reducible first | exact HB.out | apply below_alloc | apply pw_below_drewN | apply below_drew1) | exact HB.out)) (below_size (by repeat (first | (with_reducible first | exact HB.out | apply below_alloc | apply pw_below_drewN | apply below_drew1) | exact HB.out))) (by have := HL.out; omega) ?_; intro v1 w1 ho hb hg hat; replace HR := Aside0.mk ho; replace HB := Aside0.mk hb; clear ho hb hg hat))
            have hfo : foldB true ((s[i].toNat : Nat) : Int) = ((s[i].toNat : Nat) : Int) := by simp [foldB]; omega
            exact ⟨⟨i + 1, _, by go_num, HLT.out, HR, ⟨by rw [HT.out, filt_keep _ _ _ _ _ HKp.out, hfo, ← HX.out]⟩, HB⟩, by simp [intOf]; omega⟩
        · have hxa : decide (97 ≤ s[i].toNat) = false := decide_eq_false ha
          go_wp2_with (first
              | (go_at_call 63; refine Calls.mono (classes_calls _) ?_; rintro e w' ⟨rfl, hb⟩; replace HR := Aside0.mk (Kd.R_below HR.out hb); replace HB := Aside0.mk (below_step HB.out hb); clear hb)
              | (at_builtin; refine Kd.R_append (Kd.int .u8) (w0 := w) w.heap.size rfl (.tmp 72) (.tmp 74) 75 5 (.int .u8 0) 1 rfl Tryd.underlying75 infoB rfl (by decide) (by omega) _ xs _ [.int .u8 _] (fun _ => True) (fun _ => False) rfl rfl rfl (fun _ hk => hk.elim) (fun _ _ => trivial) (by (with_reducible repeat (first | apply Kd.R_alloc | apply Kd.R_drewN | apply Kd.R_drew)); exact HR.out) (by repeat (first | (with_reducible first | exact HB.out | apply below_alloc | apply pw_below_drewN | apply below_drew1) | exact HB.out)) (below_size (by repeat (first | (with_reducible first | exact HB.out | apply below_alloc | apply pw_below_drewN | apply below_drew1) | exact HB.out))) (by have := HL.out; omega) ?_; intro v1 w1 ho hb hg hat; replace HR := Aside0.mk ho; replace HB := Aside0.mk hb; clear ho hb hg hat))
          have hfo : foldB true ((s[i].toNat : Nat) : Int) = ((s[i].toNat : Nat) : Int) := by simp [foldB]; omega
          exact ⟨⟨i + 1, _, by go_num, HLT.out, HR, ⟨by rw [HT.out, filt_keep _ _ _ _ _ HKp.out, hfo, ← HX.out]⟩, HB⟩, by simp [intOf]; omega⟩
    · have hd : decide (i < s.size) = false := decide_eq_false hlt
      have hge : i = s.size := by omega
      subst hge
      have hcv := own_string (P := Tryd.prog) Tryd.underlying75 Tryd.underlying5 Tryd.underlying9 (Kd.own_of_R HR.out)
      go_wp2
      go_ret
      exact ⟨by unfold filtS; rw [HX.out, List.take_of_length_le (by rw [nums_length]; exact Nat.le_refl _)]; rfl, by repeat (first | (with_reducible first | exact HB.out | apply below_alloc | apply pw_below_drewN | apply below_drew1) | exact HB.out)⟩
set_option maxHeartbeats 4000000 in
set_option maxRecDepth 100000 in
theorem filter_010 (s : ByteArray) (hs : s.size ≤ 1048576) (k4 : Int) (p : Addr) (w : World) (x4 : w.cell? ⟨p.block, p.off + 4, none⟩ = some (.int .u16 k4)) (hd : (bits .and .u16 k4 2 != 0) = false) (hi : (bits .and .u16 k4 8 != 0) = true) (hf : (bits .and .u16 k4 4 != 0) = false) :
    Calls Tryd.prog 39 #[.pointer (some p), .string s] w fun e w' => e = .returned (.string (filtS false true false s)) ∧ Below w.heap.size w w' := by
  have hu := Tryd.underlying33
  have hu2 := Tryd.underlying71
  obtain ⟨M, hM, hmk⟩ := make_bytes s.size hs
  have HR0 := Aside0.mk (made_R w M s.size hM hs)
  have HB0 : Aside0 (Below w.heap.size w (w.alloc (.cells M 5))) := ⟨(Below.refl _ _).alloc (Nat.le_refl _) _⟩
  clear hM
  go_enter Tryd.func39, Tryd.ntmps39
  go_wp2
  clear x4 hd hf hi hmk
  go_loopw [7, 45] (fun v7 v45 wr => ∃ (i : Nat) (xs : List Int), v45 = .int .i64 i ∧ i ≤ s.size ∧ Aside0 (Kd.R (Kd.int .u8) 5 wr w.heap.size (fun _ => True) v7 xs) ∧ Aside0 (xs = filtL false true false ((nums s).take i)) ∧ Aside0 (Below w.heap.size w wr)) (fun _ v45 _ => s.size - (intOf v45).toNat)
  case atStart => exact ⟨0, [], rfl, Nat.zero_le _, HR0, ⟨rfl⟩, HB0⟩
  case round =>
    clear HR0 HB0
    obtain ⟨i, xs, rfl, hi, HR, HX, HB⟩ := hrel
    have HL : Aside0 (xs.length ≤ 1048576) := ⟨by rw [HX.out]; have h1 := filt_len false true false ((nums s).take i); rw [List.length_take] at h1; omega⟩
    by_cases hlt : i < s.size
    · have hc : (s[i].toNat) < 256 := s[i].toNat_lt
      have HLT := Aside0.mk hlt
      have HT := Aside0.mk (take_nums s i hlt)
      have hd : decide (i < s.size) = true := decide_eq_true hlt
      obtain ⟨v, hv⟩ : ∃ v, cls ((s[i].toNat : Nat) : Int) = v := ⟨_, rfl⟩
      have hix := run_cls s[i].toNat hc v hv
      have hba := cls_print ⟨s[i].toNat, hc⟩
      simp only [hv] at hba
      clear hv
      cases hkp : keepB false true ((s[i].toNat : Nat) : Int)
      · rw [hkp] at hba
        have HKp := Aside0.mk hkp
        clear hkp
        simp only [Bool.not_false] at hba
        go_wp2_with (first
            | (go_at_call 63; refine Calls.mono (classes_calls _) ?_; rintro e w' ⟨rfl, hb⟩; replace HR := Aside0.mk (Kd.R_below HR.out hb); replace HB := Aside0.mk (below_step HB.out hb); clear hb))
        exact ⟨⟨i + 1, xs, by go_num, HLT.out, HR, ⟨by rw [HT.out, filt_drop _ _ _ _ _ HKp.out, ← HX.out]⟩, HB⟩, by simp [intOf]; omega⟩
      · rw [hkp] at hba
        have HKp := Aside0.mk hkp
        clear hkp
        simp only [Bool.not_true] at hba
        go_wp2_with (first
            | (go_at_call 63; refine Calls.mono (classes_calls _) ?_; rintro e w' ⟨rfl, hb⟩; replace HR := Aside0.mk (Kd.R_below HR.out hb); replace HB := Aside0.mk (below_step HB.out hb); clear hb)
            | (at_builtin; refine Kd.R_append (Kd.int .u8) (w0 := w) w.heap.size rfl (.tmp 72) (.tmp 74) 75 5 (.int .u8 0) 1 rfl Tryd.underlying75 infoB rfl (by decide) (by omega) _ xs _ [.int .u8 _] (fun _ => True) (fun _ => False) rfl rfl rfl (fun _ hk => hk.elim) (fun _ _ => trivial) (by (with_reducible repeat (first | apply Kd.R_alloc | apply Kd.R_drewN | apply Kd.R_drew)); exact HR.out) (by repeat (first | (with_reducible first | exact HB.out | apply below_alloc | apply pw_below_drewN | apply below_drew1) | exact HB.out)) (below_size (by repeat (first | (with_reducible first | exact HB.out | apply below_alloc | apply pw_below_drewN | apply below_drew1) | exact HB.out))) (by have := HL.out; omega) ?_; intro v1 w1 ho hb hg hat; replace HR := Aside0.mk ho; replace HB := Aside0.mk hb; clear ho hb hg hat))
        have hfo : foldB false ((s[i].toNat : Nat) : Int) = ((s[i].toNat : Nat) : Int) := by simp [foldB]
        exact ⟨⟨i + 1, _, by go_num, HLT.out, HR, ⟨by rw [HT.out, filt_keep _ _ _ _ _ HKp.out, hfo, ← HX.out]⟩, HB⟩, by simp [intOf]; omega⟩
    · have hd : decide (i < s.size) = false := decide_eq_false hlt
      have hge : i = s.size := by omega
      subst hge
      have hcv := own_string (P := Tryd.prog) Tryd.underlying75 Tryd.underlying5 Tryd.underlying9 (Kd.own_of_R HR.out)
      go_wp2
      go_ret
      exact ⟨by unfold filtS; rw [HX.out, List.take_of_length_le (by rw [nums_length]; exact Nat.le_refl _)]; rfl, by repeat (first | (with_reducible first | exact HB.out | apply below_alloc | apply pw_below_drewN | apply below_drew1) | exact HB.out)⟩
set_option maxHeartbeats 4000000 in
set_option maxRecDepth 100000 in
theorem filter_011 (s : ByteArray) (hs : s.size ≤ 1048576) (k4 : Int) (p : Addr) (w : World) (x4 : w.cell? ⟨p.block, p.off + 4, none⟩ = some (.int .u16 k4)) (hd : (bits .and .u16 k4 2 != 0) = false) (hi : (bits .and .u16 k4 8 != 0) = true) (hf : (bits .and .u16 k4 4 != 0) = true) :
    Calls Tryd.prog 39 #[.pointer (some p), .string s] w fun e w' => e = .returned (.string (filtS false true true s)) ∧ Below w.heap.size w w' := by
  have hu := Tryd.underlying33
  have hu2 := Tryd.underlying71
  obtain ⟨M, hM, hmk⟩ := make_bytes s.size hs
  have HR0 := Aside0.mk (made_R w M s.size hM hs)
  have HB0 : Aside0 (Below w.heap.size w (w.alloc (.cells M 5))) := ⟨(Below.refl _ _).alloc (Nat.le_refl _) _⟩
  clear hM
  go_enter Tryd.func39, Tryd.ntmps39
  go_wp2
  clear x4 hd hf hi hmk
  go_loopw [7, 45] (fun v7 v45 wr => ∃ (i : Nat) (xs : List Int), v45 = .int .i64 i ∧ i ≤ s.size ∧ Aside0 (Kd.R (Kd.int .u8) 5 wr w.heap.size (fun _ => True) v7 xs) ∧ Aside0 (xs = filtL false true true ((nums s).take i)) ∧ Aside0 (Below w.heap.size w wr)) (fun _ v45 _ => s.size - (intOf v45).toNat)
  case atStart => exact ⟨0, [], rfl, Nat.zero_le _, HR0, ⟨rfl⟩, HB0⟩
  case round =>
    clear HR0 HB0
    obtain ⟨i, xs, rfl, hi, HR, HX, HB⟩ := hrel
    have HL : Aside0 (xs.length ≤ 1048576) := ⟨by rw [HX.out]; have h1 := filt_len false true true ((nums s).take i); rw [List.length_take] at h1; omega⟩
    by_cases hlt : i < s.size
    · have hc : (s[i].toNat) < 256 := s[i].toNat_lt
      have HLT := Aside0.mk hlt
      have HT := Aside0.mk (take_nums s i hlt)
      have hd : decide (i < s.size) = true := decide_eq_true hlt
      obtain ⟨v, hv⟩ : ∃ v, cls ((s[i].toNat : Nat) : Int) = v := ⟨_, rfl⟩
      have hix := run_cls s[i].toNat hc v hv
      have hba := cls_print ⟨s[i].toNat, hc⟩
      simp only [hv] at hba
      clear hv
      cases hkp : keepB false true ((s[i].toNat : Nat) : Int)
      · rw [hkp] at hba
        have HKp := Aside0.mk hkp
        clear hkp
        simp only [Bool.not_false] at hba
        go_wp2_with (first
            | (go_at_call 63; refine Calls.mono (classes_calls _) ?_; rintro e w' ⟨rfl, hb⟩; replace HR := Aside0.mk (Kd.R_below HR.out hb); replace HB := Aside0.mk (below_step HB.out hb); clear hb))
        exact ⟨⟨i + 1, xs, by go_num, HLT.out, HR, ⟨by rw [HT.out, filt_drop _ _ _ _ _ HKp.out, ← HX.out]⟩, HB⟩, by simp [intOf]; omega⟩
      · rw [hkp] at hba
        have HKp := Aside0.mk hkp
        clear hkp
        simp only [Bool.not_true] at hba
        by_cases ha : 97 ≤ s[i].toNat
        · have hxa : decide (97 ≤ s[i].toNat) = true := decide_eq_true ha
          by_cases hz : s[i].toNat ≤ 122
          · have hxz : decide (s[i].toNat ≤ 122) = true := decide_eq_true hz
            go_wp2_with (first
                | (go_at_call 63; refine Calls.mono (classes_calls _) ?_; rintro e w' ⟨rfl, hb⟩; replace HR := Aside0.mk (Kd.R_below HR.out hb); replace HB := Aside0.mk (below_step HB.out hb); clear hb)
                | (at_builtin; refine Kd.R_append (Kd.int .u8) (w0 := w) w.heap.size rfl (.tmp 72) (.tmp 74) 75 5 (.int .u8 0) 1 rfl Tryd.underlying75 infoB rfl (by decide) (by omega) _ xs _ [.int .u8 _] (fun _ => True) (fun _ => False) rfl rfl rfl (fun _ hk => hk.elim) (fun _ _ => trivial) (by (with_reducible repeat (first | apply Kd.R_alloc | apply Kd.R_drewN | apply Kd.R_drew)); exact HR.out) (by repeat (first | (with_reducible first | exact HB.out | apply below_alloc | apply pw_below_drewN | apply below_drew1) | exact HB.out)) (below_size (by repeat (first | (with_reducible first | exact HB.out | apply below_alloc | apply pw_below_drewN | apply below_drew1) | exact HB.out))) (by have := HL.out; omega) ?_; intro v1 w1 ho hb hg hat; replace HR := Aside0.mk ho; replace HB := Aside0.mk hb; clear ho hb hg hat))
            have hfo : foldB true ((s[i].toNat : Nat) : Int) = ((s[i].toNat : Nat) : Int) - 32 := by simp [foldB]; omega
            exact ⟨⟨i + 1, _, by go_num, HLT.out, HR, ⟨by rw [HT.out, filt_keep _ _ _ _ _ HKp.out, hfo, ← HX.out]⟩, HB⟩, by simp [intOf]; omega⟩
          · have hxz : decide (s[i].toNat ≤ 122) = false := decide_eq_false hz
            go_wp2_with (first
                | (go_at_call 63; refine Calls.mono (classes_calls _) ?_; rintro e w' ⟨rfl, hb⟩; replace HR := Aside0.mk (Kd.R_below HR.out hb); replace HB := Aside0.mk (below_step HB.out hb); clear hb)
                | (at_builtin; refine Kd.R_append (Kd.int .u8) (w0 := w) w.heap.size rfl (.tmp 72) (.tmp 74) 75 5 (.int .u8 0) 1 rfl Tryd.underlying75 infoB rfl (by decide) (by omega) _ xs _ [.int .u8 _] (fun _ => True) (fun _ => False) rfl rfl rfl (fun _ hk => hk.elim) (fun _ _ => trivial) (by (with_reducible repeat (first | apply Kd.R_alloc | apply Kd.R_drewN | apply Kd.R_drew)); exact HR.out) (by repeat (first | (with_reducible first | exact HB.out | apply below_alloc | apply pw_below_drewN | apply below_drew1) | exact HB.out)) (below_size (by repeat (first | (with_reducible first | exact HB.out | apply below_alloc | apply pw_below_drewN | apply below_drew1) | exact HB.out))) (by have := HL.out; omega) ?_; intro v1 w1 ho hb hg hat; replace HR := Aside0.mk ho; replace HB := Aside0.mk hb; clear ho hb hg hat))
            have hfo : foldB true ((s[i].toNat : Nat) : Int) = ((s[i].toNat : Nat) : Int) := by simp [foldB]; omega
            exact ⟨⟨i + 1, _, by go_num, HLT.out, HR, ⟨by rw [HT.out, filt_keep _ _ _ _ _ HKp.out, hfo, ← HX.out]⟩, HB⟩, by simp [intOf]; omega⟩
        · have hxa : decide (97 ≤ s[i].toNat) = false := decide_eq_false ha
          go_wp2_with (first
              | (go_at_call 63; refine Calls.mono (classes_calls _) ?_; rintro e w' ⟨rfl, hb⟩; replace HR := Aside0.mk (Kd.R_below HR.out hb); replace HB := Aside0.mk (below_step HB.out hb); clear hb)
              | (at_builtin; refine Kd.R_append (Kd.int .u8) (w0 := w) w.heap.size rfl (.tmp 72) (.tmp 74) 75 5 (.int .u8 0) 1 rfl Tryd.underlying75 infoB rfl (by decide) (by omega) _ xs _ [.int .u8 _] (fun _ => True) (fun _ => False) rfl rfl rfl (fun _ hk => hk.elim) (fun _ _ => trivial) (by (with_reducible repeat (first | apply Kd.R_alloc | apply Kd.R_drewN | apply Kd.R_drew)); exact HR.out) (by repeat (first | (with_reducible first | exact HB.out | apply below_alloc | apply pw_below_drewN | apply below_drew1) | exact HB.out)) (below_size (by repeat (first | (with_reducible first | exact HB.out | apply below_alloc | apply pw_below_drewN | apply below_drew1) | exact HB.out))) (by have := HL.out; omega) ?_; intro v1 w1 ho hb hg hat; replace HR := Aside0.mk ho; replace HB := Aside0.mk hb; clear ho hb hg hat))
          have hfo : foldB true ((s[i].toNat : Nat) : Int) = ((s[i].toNat : Nat) : Int) := by simp [foldB]; omega
          exact ⟨⟨i + 1, _, by go_num, HLT.out, HR, ⟨by rw [HT.out, filt_keep _ _ _ _ _ HKp.out, hfo, ← HX.out]⟩, HB⟩, by simp [intOf]; omega⟩
    · have hd : decide (i < s.size) = false := decide_eq_false hlt
      have hge : i = s.size := by omega
      subst hge
      have hcv := own_string (P := Tryd.prog) Tryd.underlying75 Tryd.underlying5 Tryd.underlying9 (Kd.own_of_R HR.out)
      go_wp2
      go_ret
      exact ⟨by unfold filtS; rw [HX.out, List.take_of_length_le (by rw [nums_length]; exact Nat.le_refl _)]; rfl, by repeat (first | (with_reducible first | exact HB.out | apply below_alloc | apply pw_below_drewN | apply below_drew1) | exact HB.out)⟩
set_option maxHeartbeats 4000000 in
set_option maxRecDepth 100000 in
theorem filter_001 (s : ByteArray) (hs : s.size ≤ 1048576) (k4 : Int) (p : Addr) (w : World) (x4 : w.cell? ⟨p.block, p.off + 4, none⟩ = some (.int .u16 k4)) (hd : (bits .and .u16 k4 2 != 0) = false) (hi : (bits .and .u16 k4 8 != 0) = false) (hf : (bits .and .u16 k4 4 != 0) = true) :
    Calls Tryd.prog 39 #[.pointer (some p), .string s] w fun e w' => e = .returned (.string (filtS false false true s)) ∧ Below w.heap.size w w' := by
  have hu := Tryd.underlying33
  have hu2 := Tryd.underlying71
  obtain ⟨M, hM, hmk⟩ := make_bytes s.size hs
  have HR0 := Aside0.mk (made_R w M s.size hM hs)
  have HB0 : Aside0 (Below w.heap.size w (w.alloc (.cells M 5))) := ⟨(Below.refl _ _).alloc (Nat.le_refl _) _⟩
  clear hM
  go_enter Tryd.func39, Tryd.ntmps39
  go_wp2
  clear x4 hd hf hi hmk
  go_loopw [7, 45] (fun v7 v45 wr => ∃ (i : Nat) (xs : List Int), v45 = .int .i64 i ∧ i ≤ s.size ∧ Aside0 (Kd.R (Kd.int .u8) 5 wr w.heap.size (fun _ => True) v7 xs) ∧ Aside0 (xs = filtL false false true ((nums s).take i)) ∧ Aside0 (Below w.heap.size w wr)) (fun _ v45 _ => s.size - (intOf v45).toNat)
  case atStart => exact ⟨0, [], rfl, Nat.zero_le _, HR0, ⟨rfl⟩, HB0⟩
  case round =>
    clear HR0 HB0
    obtain ⟨i, xs, rfl, hi, HR, HX, HB⟩ := hrel
    have HL : Aside0 (xs.length ≤ 1048576) := ⟨by rw [HX.out]; have h1 := filt_len false false true ((nums s).take i); rw [List.length_take] at h1; omega⟩
    by_cases hlt : i < s.size
    · have hc : (s[i].toNat) < 256 := s[i].toNat_lt
      have HLT := Aside0.mk hlt
      have HT := Aside0.mk (take_nums s i hlt)
      have hd : decide (i < s.size) = true := decide_eq_true hlt
      have HKp : Aside0 (keepB false false ((s[i].toNat : Nat) : Int) = true) := ⟨rfl⟩
      by_cases ha : 97 ≤ s[i].toNat
      · have hxa : decide (97 ≤ s[i].toNat) = true := decide_eq_true ha
        by_cases hz : s[i].toNat ≤ 122
        · have hxz : decide (s[i].toNat ≤ 122) = true := decide_eq_true hz
          go_wp2_with (first
              | (at_builtin; refine Kd.R_append (Kd.int .u8) (w0 := w) w.heap.size rfl (.tmp 72) (.tmp 74) 75 5 (.int .u8 0) 1 rfl Tryd.underlying75 infoB rfl (by decide) (by omega) _ xs _ [.int .u8 _] (fun _ => True) (fun _ => False) rfl rfl rfl (fun _ hk => hk.elim) (fun _ _ => trivial) (by (with_reducible repeat (first | apply Kd.R_alloc | apply Kd.R_drewN | apply Kd.R_drew)); exact HR.out) (by repeat (first | (with_reducible first | exact HB.out | apply below_alloc | apply pw_below_drewN | apply below_drew1) | exact HB.out)) (below_size (by repeat (first | (with_reducible first | exact HB.out | apply below_alloc | apply pw_below_drewN | apply below_drew1) | exact HB.out))) (by have := HL.out; omega) ?_; intro v1 w1 ho hb hg hat; replace HR := Aside0.mk ho; replace HB := Aside0.mk hb; clear ho hb hg hat))
          have hfo : foldB true ((s[i].toNat : Nat) : Int) = ((s[i].toNat : Nat) : Int) - 32 := by simp [foldB]; omega
          exact ⟨⟨i + 1, _, by go_num, HLT.out, HR, ⟨by rw [HT.out, filt_keep _ _ _ _ _ HKp.out, hfo, ← HX.out]⟩, HB⟩, by simp [intOf]; omega⟩
        · have hxz : decide (s[i].toNat ≤ 122) = false := decide_eq_false hz
          go_wp2_with (first
              | (at_builtin; refine Kd.R_append (Kd.int .u8) (w0 := w) w.heap.size rfl (.tmp 72) (.tmp 74) 75 5 (.int .u8 0) 1 rfl Tryd.underlying75 infoB rfl (by decide) (by omega) _ xs _ [.int .u8 _] (fun _ => True) (fun _ => False) rfl rfl rfl (fun _ hk => hk.elim) (fun _ _ => trivial) (by (with_reducible repeat (first | apply Kd.R_alloc | apply Kd.R_drewN | apply Kd.R_drew)); exact HR.out) (by repeat (first | (with_reducible first | exact HB.out | apply below_alloc | apply pw_below_drewN | apply below_drew1) | exact HB.out)) (below_size (by repeat (first | (with_reducible first | exact HB.out | apply below_alloc | apply pw_below_drewN | apply below_drew1) | exact HB.out))) (by have := HL.out; omega) ?_; intro v1 w1 ho hb hg hat; replace HR := Aside0.mk ho; replace HB := Aside0.mk hb; clear ho hb hg hat))
          have hfo : foldB true ((s[i].toNat : Nat) : Int) = ((s[i].toNat : Nat) : Int) := by simp [foldB]; omega
          exact ⟨⟨i + 1, _, by go_num, HLT.out, HR, ⟨by rw [HT.out, filt_keep _ _ _ _ _ HKp.out, hfo, ← HX.out]⟩, HB⟩, by simp [intOf]; omega⟩
      · have hxa : decide (97 ≤ s[i].toNat) = false := decide_eq_false ha
        go_wp2_with (first
            | (at_builtin; refine Kd.R_append (Kd.int .u8) (w0 := w) w.heap.size rfl (.tmp 72) (.tmp 74) 75 5 (.int .u8 0) 1 rfl Tryd.underlying75 infoB rfl (by decide) (by omega) _ xs _ [.int .u8 _] (fun _ => True) (fun _ => False) rfl rfl rfl (fun _ hk => hk.elim) (fun _ _ => trivial) (by (with_reducible repeat (first | apply Kd.R_alloc | apply Kd.R_drewN | apply Kd.R_drew)); exact HR.out) (by repeat (first | (with_reducible first | exact HB.out | apply below_alloc | apply pw_below_drewN | apply below_drew1) | exact HB.out)) (below_size (by repeat (first | (with_reducible first | exact HB.out | apply below_alloc | apply pw_below_drewN | apply below_drew1) | exact HB.out))) (by have := HL.out; omega) ?_; intro v1 w1 ho hb hg hat; replace HR := Aside0.mk ho; replace HB := Aside0.mk hb; clear ho hb hg hat))
        have hfo : foldB true ((s[i].toNat : Nat) : Int) = ((s[i].toNat : Nat) : Int) := by simp [foldB]; omega
        exact ⟨⟨i + 1, _, by go_num, HLT.out, HR, ⟨by rw [HT.out, filt_keep _ _ _ _ _ HKp.out, hfo, ← HX.out]⟩, HB⟩, by simp [intOf]; omega⟩
    · have hd : decide (i < s.size) = false := decide_eq_false hlt
      have hge : i = s.size := by omega
      subst hge
      have hcv := own_string (P := Tryd.prog) Tryd.underlying75 Tryd.underlying5 Tryd.underlying9 (Kd.own_of_R HR.out)
      go_wp2
      go_ret
      exact ⟨by unfold filtS; rw [HX.out, List.take_of_length_le (by rw [nums_length]; exact Nat.le_refl _)]; rfl, by repeat (first | (with_reducible first | exact HB.out | apply below_alloc | apply pw_below_drewN | apply below_drew1) | exact HB.out)⟩
/-- What of a text a key with these modifiers compares. -/
def filtK (m : Int) (s : ByteArray) : ByteArray := filtS (bits .and .u16 m 2 != 0) (!(bits .and .u16 m 2 != 0) && (bits .and .u16 m 8 != 0)) (bits .and .u16 m 4 != 0) s
theorem filter_calls (s : ByteArray) (hs : s.size ≤ 1048576) (k : Ky) (p : Addr) (w : World) (h : KeyAt w p k) :
    Calls Tryd.prog 39 #[.pointer (some p), .string s] w fun e w' => e = .returned (.string (filtK k.f4 s)) ∧ Below w.heap.size w w' := by
  unfold filtK
  cases hd : (bits .and .u16 k.f4 2 != 0)
  · cases hi : (bits .and .u16 k.f4 8 != 0) <;> cases hf : (bits .and .u16 k.f4 4 != 0)
    · exact filter_000 s hs k.f4 p w h.c4 hd hi hf
    · exact filter_001 s hs k.f4 p w h.c4 hd hi hf
    · exact filter_010 s hs k.f4 p w h.c4 hd hi hf
    · exact filter_011 s hs k.f4 p w h.c4 hd hi hf
  · cases hf : (bits .and .u16 k.f4 4 != 0)
    · exact filter_1x0 s hs k.f4 p w h.c4 hd hf
    · exact filter_1x1 s hs k.f4 p w h.c4 hd hf
end Go.Proofs.YtnnoegjgaelafaaDoor.Pr
namespace Go.Proofs.YtnnoegjgaelafaaDoor.Pr
open Go.RowKit Go.Proofs.YtnnoegjgaelafaaDoorW.PrintWords Go.Proofs.YtnnoegjgaelafaaDoorW.PrintLast
set_option linter.unusedVariables false
set_option linter.unusedSimpArgs false

/-- What of a line is compared as a text key. -/
def textI (s : ByteArray) (t : Int) (k : Ky) : ByteArray := s.extract (spanI s t k).1.toNat (spanI s t k).2.toNat
theorem filtL_len (d i f : Bool) (s : ByteArray) : (filtS d i f s).size ≤ s.size := by
  unfold filtS; rw [strOfNums_size]; exact Nat.le_trans (filt_len _ _ _ _) (Nat.le_of_eq (nums_length s))
theorem text_len (s : ByteArray) (t : Int) (k : Ky) : (textI s t k).size ≤ s.size := by
  unfold textI; rw [ByteArray.size_extract]; omega
end Go.Proofs.YtnnoegjgaelafaaDoor.Pr
namespace Go.Proofs.YtnnoegjgaelafaaDoor.Pr
open Go.RowKit Go.Proofs.YtnnoegjgaelafaaDoorW.PrintWords Go.Proofs.YtnnoegjgaelafaaDoorW.PrintLast
set_option linter.unusedVariables false
set_option linter.unusedSimpArgs false

theorem bt_nat (s : ByteArray) (i : Nat) (h : i < s.size) : bt s (i : Int) = ((s[i].toNat : Nat) : Int) := (bt_at s (i : Int) h).symm
end Go.Proofs.YtnnoegjgaelafaaDoor.Pr
