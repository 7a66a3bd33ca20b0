/- The program's span of a column: the part of the line that the document's Span names. The program's Count and Span of an order. The program's filter of a column: what of a text counts, small letters large. The program's Filter of an order. The document's Filter is filtK of the key's part. Pure. -/
import Derived.Test.YtnnoegjgaelafaaDoorRefs
import Derived.Test.YtnnoegjgaelafaaDoorBase
import Derived.Test.YtnnoegjgaelafaaDoorMade
import Derived.Test.YtnnoegjgaelafaaDoorFgn
import Derived.Laws.MakeOwn
import Derived.Test.YtnnoegjgaelafaaDoorShelg
import Derived.Test.YtnnoegjgaelafaaDoorPrx17
namespace Go.Proofs.YtnnoegjgaelafaaDoor.Pr
open Go.RowKit Go.Proofs.YtnnoegjgaelafaaDoorW.PrintWords Go.Proofs.YtnnoegjgaelafaaDoorW.PrintLast
set_option linter.unusedVariables false
set_option linter.unusedSimpArgs false

/-- A key's cells stand at p. -/
structure KeyAt (w : World) (p : Addr) (k : Ky) : Prop where
  c0 : w.cell? p = some (.int .i64 k.f0)
  c1 : w.cell? ⟨p.block, p.off + 1, none⟩ = some (.int .i64 k.f1)
  c2 : w.cell? ⟨p.block, p.off + 2, none⟩ = some (.int .i64 k.f2)
  c3 : w.cell? ⟨p.block, p.off + 3, none⟩ = some (.int .i64 k.f3)
  c4 : w.cell? ⟨p.block, p.off + 4, none⟩ = some (.int .u16 k.f4)
  c5 : w.cell? ⟨p.block, p.off + 5, none⟩ = some (.bool k.f5)
theorem cell_stays {W w1 : World} {p : Addr} {v : Value} (hb : Below W.heap.size W w1) (hc : W.cell? p = some v) : w1.cell? p = some v := (hb.cell (World.block_lt_of_cell? W p hc)).trans hc
theorem KeyAt.keep {w w1 : World} {p : Addr} {k : Ky} (h : KeyAt w p k) (hb : Below w.heap.size w w1) : KeyAt w1 p k :=
  ⟨cell_stays hb h.c0, cell_stays hb h.c1, cell_stays hb h.c2, cell_stays hb h.c3, cell_stays hb h.c4, cell_stays hb h.c5⟩
theorem field_calls (s : ByteArray) (hs : s.size ≤ 1048576) (t : Int) (h2 : t ≤ 255) (n : Int) (a : 1 ≤ n) (b : n ≤ 2147483647) (W : World) :
    Calls Tryd.prog 58 #[.string s, .int .i64 n, .int .i64 t] W fun e w' => e = .returned (.tuple #[.int .i64 (placeFrom s t 0 (n - 1).toNat).1, .bool (placeFrom s t 0 (n - 1).toNat).2]) ∧ Below W.heap.size W w' := by
  obtain ⟨K, hK⟩ := field_prog s hs t h2 n a b
  exact collate_field.calls K s n t _ _ W (hK K (Nat.le_refl _))
theorem behind_calls (s : ByteArray) (hs : s.size ≤ 1048576) (t : Int) (h2 : t ≤ 255) (i : Nat) (hi : i ≤ s.size) (W : World) :
    Calls Tryd.prog 60 #[.string s, .int .i64 i, .int .i64 t] W fun e w' => e = .returned (.int .i64 (behindN s t i)) ∧ Below W.heap.size W w' :=
  collate_behind.calls s i t _ W (behind_some s (by omega) t h2 i hi)
/-- In the walk: the result's cell at w's end, the key's cells at p. -/
structure SpAt (w W : World) (p : Addr) (k0 k1 k2 k3 k4 : Int) (k5 : Bool) : Prop where
  below : Below w.heap.size w W
  size : w.heap.size < W.heap.size
  z : W.heap[w.heap.size]? = some (.cells #[.int .i64 0, .int .i64 0] 37 (0, 0))
  c0 : W.cell? p = some (.int .i64 k0)
  c1 : W.cell? ⟨p.block, p.off + 1, none⟩ = some (.int .i64 k1)
  c2 : W.cell? ⟨p.block, p.off + 2, none⟩ = some (.int .i64 k2)
  c3 : W.cell? ⟨p.block, p.off + 3, none⟩ = some (.int .i64 k3)
  c4 : W.cell? ⟨p.block, p.off + 4, none⟩ = some (.int .u16 k4)
  c5 : W.cell? ⟨p.block, p.off + 5, none⟩ = some (.bool k5)
theorem SpAt.step {w W w1 : World} {p : Addr} {k0 k1 k2 k3 k4 : Int} {k5 : Bool} (h : SpAt w W p k0 k1 k2 k3 k4 k5) (hb : Below W.heap.size W w1) : SpAt w w1 p k0 k1 k2 k3 k4 k5 :=
  ⟨below_step h.below hb, Nat.lt_of_lt_of_le h.size hb.size, (hb.block _ h.size).trans h.z, cell_stays hb h.c0, cell_stays hb h.c1, cell_stays hb h.c2, cell_stays hb h.c3, cell_stays hb h.c4, cell_stays hb h.c5⟩
theorem SpAt.first {w : World} {p : Addr} {k : Ky} (h : KeyAt w p k) : SpAt w (w.alloc (.cells #[.int .i64 0, .int .i64 0] 37)) p k.f0 k.f1 k.f2 k.f3 k.f4 k.f5 := by
  have hb : Below w.heap.size w (w.alloc (.cells #[.int .i64 0, .int .i64 0] 37)) := (Below.refl _ _).alloc (Nat.le_refl _) _
  have h := h.keep hb
  exact ⟨hb, by simp, heap_alloc_new _ _, h.c0, h.c1, h.c2, h.c3, h.c4, h.c5⟩
set_option maxHeartbeats 4000000 in
set_option maxRecDepth 100000 in
theorem span_calls (s : ByteArray) (hs : s.size ≤ 1048576) (t : Int) (h1 : -1 ≤ t) (h2 : t ≤ 255) (k : Ky) (hk : Fit k) (p : Addr) (w : World) (h : KeyAt w p k) :
    Calls Tryd.prog 33 #[.pointer (some p), .string s, .int .i64 t] w fun e w' => e = .returned (.agg #[.int .i64 (spanI s t k).1, .int .i64 (spanI s t k).2]) ∧ Below w.heap.size w w' := by
  have hu := Tryd.underlying33
  have hu2 := Tryd.underlying71
  have hu3 := Tryd.underlying37
  have HA := Aside0.mk (SpAt.first h)
  obtain ⟨k0, k1, k2, k3, k4, k5⟩ := k
  obtain ⟨a, b, c, d, e, f, g, hh⟩ := hk
  simp only at a b c d e f g hh HA
  have HF := Aside0.mk (fun W => field_calls s hs t h2 k0 a b W)
  have hP := place_le s t (k0 - 1).toNat 0 (Nat.zero_le _)
  have HS := Aside0.mk (fun W => skip_calls s true (placeFrom s t 0 (k0 - 1).toNat).1 W (by omega) hP)
  have hbl := beg_le s t k0 (modB k4)
  have hsp : spanI s t ⟨k0, k1, k2, k3, k4, k5⟩ = (min (s.size : Int) ((begN s t k0 (modB k4) : Nat) + k1 - 1), max (min (s.size : Int) ((begN s t k0 (modB k4) : Nat) + k1 - 1)) (toP s t ⟨k0, k1, k2, k3, k4, k5⟩)) := by rw [toP_eq s t h1 h2]; rfl
  rw [hsp]
  clear hsp
  have HF2 := Aside0.mk (fun (h : 1 ≤ k2) W => field_calls s hs t h2 k2 h f W)
  have hP2 := place_le s t (k2 - 1).toNat 0 (Nat.zero_le _)
  have HS2 := Aside0.mk (fun W => skip_calls s true (placeFrom s t 0 (k2 - 1).toNat).1 W (by omega) hP2)
  have HB2 := Aside0.mk (fun W => behind_calls s hs t h2 (placeFrom s t 0 (k2 - 1).toNat).1 hP2 W)
  have hbl2 := beg_le s t k2 k5
  unfold toP
  unfold begN at hbl hbl2 ⊢
  unfold modB at hbl ⊢
  simp only at hbl hbl2 ⊢
  clear h
  have hl2 : 1 ≤ k2 ∨ ¬ k2 > 0 := by omega
  generalize placeFrom s t 0 (k0 - 1).toNat = P at *
  generalize placeFrom s t 0 (k2 - 1).toNat = P' at *
  obtain ⟨P1, P2⟩ := P
  obtain ⟨Q1, Q2⟩ := P'
  simp only at hP HS HF hbl hP2 HF2 HS2 HB2 hbl2 ⊢
  by_cases q2 : k2 > 0
  · have hx2 : decide (0 < k2) = true := decide_eq_true q2
    rw [if_pos q2]
    have HF2 := Aside0.mk (HF2.out (by omega))
    clear q2 hl2
    by_cases q3 : k3 > 0
    · have hx3 : decide (0 < k3) = true := decide_eq_true q3
      rw [if_pos q3]
      clear HB2 q3
      cases k5
      · simp only [if_neg (by decide : ¬ false = true), Bool.false_eq_true, if_false] at hbl2 ⊢
        clear HS2
        cases hb : (bits .and .u16 k4 1 != 0)
        · rw [hb] at hbl
          simp only [if_neg (by decide : ¬ false = true), Bool.false_eq_true, if_false] at hbl ⊢
          go_enter Tryd.func33, Tryd.ntmps33
          go_upto_region 1 with (fail)
          obtain ⟨W0, hW0⟩ : ∃ W0 : World, W0 = w.alloc (.cells #[.int .i64 0, .int .i64 0] 37) := ⟨_, rfl⟩
          rw [← hW0] at HA ⊢
          clear hW0
          obtain ⟨_, _, _, x0, x1, x2, x3, x4, x5⟩ := HA.out
          go_wp2_with (first
              | (go_at_call 58; refine Calls.mono (HF.out _) ?_; rintro e w1 ⟨rfl, hb1⟩; replace HA := Aside0.mk (HA.out.step hb1); clear HF hb1 x0 x1 x2 x3 x4 x5; obtain ⟨_, _, z, x0, x1, x2, x3, x4, x5⟩ := HA.out; (try clear z0 z1 f0 f1); have z0 := blk_cell z 0; have z1 := blk_cell z 1; have f0 := blk_frozen z 0; have f1 := blk_frozen z 1; simp at z0 z1; clear z)
              | (go_at_call 58; refine Calls.mono (HF2.out _) ?_; rintro e w1 ⟨rfl, hb1⟩; replace HA := Aside0.mk (HA.out.step hb1); clear HF2 hb1 x0 x1 x2 x3 x4 x5; obtain ⟨_, _, z, x0, x1, x2, x3, x4, x5⟩ := HA.out; (try clear z0 z1 f0 f1); have z0 := blk_cell z 0; have z1 := blk_cell z 1; have f0 := blk_frozen z 0; have f1 := blk_frozen z 1; simp at z0 z1; clear z))
          refine bodyPost_ret (results_cell_row rfl _ _ w.heap.size 37 #[.int .i64 _, .int .i64 _] (0, 0) _ rfl (blk_put (cs := #[.int .i64 _, .int .i64 0]) (blk_put (cs := #[.int .i64 0, .int .i64 0]) HA.out.z 0 _ rfl) 1 _ rfl) Tryd.underlying37 rfl (by kernel_rfl)) rfl ⟨rfl, below_set (below_set HA.out.below (Nat.le_refl _)) (Nat.le_refl _)⟩
        · rw [hb] at hbl
          simp only [if_true] at hbl ⊢
          go_enter Tryd.func33, Tryd.ntmps33
          go_upto_region 1 with (fail)
          obtain ⟨W0, hW0⟩ : ∃ W0 : World, W0 = w.alloc (.cells #[.int .i64 0, .int .i64 0] 37) := ⟨_, rfl⟩
          rw [← hW0] at HA ⊢
          clear hW0
          obtain ⟨_, _, _, x0, x1, x2, x3, x4, x5⟩ := HA.out
          go_wp2_with (first
              | (go_at_call 58; refine Calls.mono (HF.out _) ?_; rintro e w1 ⟨rfl, hb1⟩; replace HA := Aside0.mk (HA.out.step hb1); clear HF hb1 x0 x1 x2 x3 x4 x5; obtain ⟨_, _, z, x0, x1, x2, x3, x4, x5⟩ := HA.out; (try clear z0 z1 f0 f1); have z0 := blk_cell z 0; have z1 := blk_cell z 1; have f0 := blk_frozen z 0; have f1 := blk_frozen z 1; simp at z0 z1; clear z)
              | (go_at_call 59; refine Calls.mono (HS.out _) ?_; rintro e w1 ⟨rfl, hb1⟩; replace HA := Aside0.mk (HA.out.step hb1); clear HS hb1 x0 x1 x2 x3 x4 x5; obtain ⟨_, _, z, x0, x1, x2, x3, x4, x5⟩ := HA.out; (try clear z0 z1 f0 f1); have z0 := blk_cell z 0; have z1 := blk_cell z 1; have f0 := blk_frozen z 0; have f1 := blk_frozen z 1; simp at z0 z1; clear z)
              | (go_at_call 58; refine Calls.mono (HF2.out _) ?_; rintro e w1 ⟨rfl, hb1⟩; replace HA := Aside0.mk (HA.out.step hb1); clear HF2 hb1 x0 x1 x2 x3 x4 x5; obtain ⟨_, _, z, x0, x1, x2, x3, x4, x5⟩ := HA.out; (try clear z0 z1 f0 f1); have z0 := blk_cell z 0; have z1 := blk_cell z 1; have f0 := blk_frozen z 0; have f1 := blk_frozen z 1; simp at z0 z1; clear z))
          refine bodyPost_ret (results_cell_row rfl _ _ w.heap.size 37 #[.int .i64 _, .int .i64 _] (0, 0) _ rfl (blk_put (cs := #[.int .i64 _, .int .i64 0]) (blk_put (cs := #[.int .i64 0, .int .i64 0]) HA.out.z 0 _ rfl) 1 _ rfl) Tryd.underlying37 rfl (by kernel_rfl)) rfl ⟨rfl, below_set (below_set HA.out.below (Nat.le_refl _)) (Nat.le_refl _)⟩
      · simp only [if_true] at hbl2 ⊢
        cases hb : (bits .and .u16 k4 1 != 0)
        · rw [hb] at hbl
          simp only [if_neg (by decide : ¬ false = true), Bool.false_eq_true, if_false] at hbl ⊢
          go_enter Tryd.func33, Tryd.ntmps33
          go_upto_region 1 with (fail)
          obtain ⟨W0, hW0⟩ : ∃ W0 : World, W0 = w.alloc (.cells #[.int .i64 0, .int .i64 0] 37) := ⟨_, rfl⟩
          rw [← hW0] at HA ⊢
          clear hW0
          obtain ⟨_, _, _, x0, x1, x2, x3, x4, x5⟩ := HA.out
          go_wp2_with (first
              | (go_at_call 58; refine Calls.mono (HF.out _) ?_; rintro e w1 ⟨rfl, hb1⟩; replace HA := Aside0.mk (HA.out.step hb1); clear HF hb1 x0 x1 x2 x3 x4 x5; obtain ⟨_, _, z, x0, x1, x2, x3, x4, x5⟩ := HA.out; (try clear z0 z1 f0 f1); have z0 := blk_cell z 0; have z1 := blk_cell z 1; have f0 := blk_frozen z 0; have f1 := blk_frozen z 1; simp at z0 z1; clear z)
              | (go_at_call 58; refine Calls.mono (HF2.out _) ?_; rintro e w1 ⟨rfl, hb1⟩; replace HA := Aside0.mk (HA.out.step hb1); clear HF2 hb1 x0 x1 x2 x3 x4 x5; obtain ⟨_, _, z, x0, x1, x2, x3, x4, x5⟩ := HA.out; (try clear z0 z1 f0 f1); have z0 := blk_cell z 0; have z1 := blk_cell z 1; have f0 := blk_frozen z 0; have f1 := blk_frozen z 1; simp at z0 z1; clear z)
              | (go_at_call 59; refine Calls.mono (HS2.out _) ?_; rintro e w1 ⟨rfl, hb1⟩; replace HA := Aside0.mk (HA.out.step hb1); clear HS2 hb1 x0 x1 x2 x3 x4 x5; obtain ⟨_, _, z, x0, x1, x2, x3, x4, x5⟩ := HA.out; (try clear z0 z1 f0 f1); have z0 := blk_cell z 0; have z1 := blk_cell z 1; have f0 := blk_frozen z 0; have f1 := blk_frozen z 1; simp at z0 z1; clear z))
          refine bodyPost_ret (results_cell_row rfl _ _ w.heap.size 37 #[.int .i64 _, .int .i64 _] (0, 0) _ rfl (blk_put (cs := #[.int .i64 _, .int .i64 0]) (blk_put (cs := #[.int .i64 0, .int .i64 0]) HA.out.z 0 _ rfl) 1 _ rfl) Tryd.underlying37 rfl (by kernel_rfl)) rfl ⟨rfl, below_set (below_set HA.out.below (Nat.le_refl _)) (Nat.le_refl _)⟩
        · rw [hb] at hbl
          simp only [if_true] at hbl ⊢
          go_enter Tryd.func33, Tryd.ntmps33
          go_upto_region 1 with (fail)
          obtain ⟨W0, hW0⟩ : ∃ W0 : World, W0 = w.alloc (.cells #[.int .i64 0, .int .i64 0] 37) := ⟨_, rfl⟩
          rw [← hW0] at HA ⊢
          clear hW0
          obtain ⟨_, _, _, x0, x1, x2, x3, x4, x5⟩ := HA.out
          go_wp2_with (first
              | (go_at_call 58; refine Calls.mono (HF.out _) ?_; rintro e w1 ⟨rfl, hb1⟩; replace HA := Aside0.mk (HA.out.step hb1); clear HF hb1 x0 x1 x2 x3 x4 x5; obtain ⟨_, _, z, x0, x1, x2, x3, x4, x5⟩ := HA.out; (try clear z0 z1 f0 f1); have z0 := blk_cell z 0; have z1 := blk_cell z 1; have f0 := blk_frozen z 0; have f1 := blk_frozen z 1; simp at z0 z1; clear z)
              | (go_at_call 59; refine Calls.mono (HS.out _) ?_; rintro e w1 ⟨rfl, hb1⟩; replace HA := Aside0.mk (HA.out.step hb1); clear HS hb1 x0 x1 x2 x3 x4 x5; obtain ⟨_, _, z, x0, x1, x2, x3, x4, x5⟩ := HA.out; (try clear z0 z1 f0 f1); have z0 := blk_cell z 0; have z1 := blk_cell z 1; have f0 := blk_frozen z 0; have f1 := blk_frozen z 1; simp at z0 z1; clear z)
              | (go_at_call 58; refine Calls.mono (HF2.out _) ?_; rintro e w1 ⟨rfl, hb1⟩; replace HA := Aside0.mk (HA.out.step hb1); clear HF2 hb1 x0 x1 x2 x3 x4 x5; obtain ⟨_, _, z, x0, x1, x2, x3, x4, x5⟩ := HA.out; (try clear z0 z1 f0 f1); have z0 := blk_cell z 0; have z1 := blk_cell z 1; have f0 := blk_frozen z 0; have f1 := blk_frozen z 1; simp at z0 z1; clear z)
              | (go_at_call 59; refine Calls.mono (HS2.out _) ?_; rintro e w1 ⟨rfl, hb1⟩; replace HA := Aside0.mk (HA.out.step hb1); clear HS2 hb1 x0 x1 x2 x3 x4 x5; obtain ⟨_, _, z, x0, x1, x2, x3, x4, x5⟩ := HA.out; (try clear z0 z1 f0 f1); have z0 := blk_cell z 0; have z1 := blk_cell z 1; have f0 := blk_frozen z 0; have f1 := blk_frozen z 1; simp at z0 z1; clear z))
          refine bodyPost_ret (results_cell_row rfl _ _ w.heap.size 37 #[.int .i64 _, .int .i64 _] (0, 0) _ rfl (blk_put (cs := #[.int .i64 _, .int .i64 0]) (blk_put (cs := #[.int .i64 0, .int .i64 0]) HA.out.z 0 _ rfl) 1 _ rfl) Tryd.underlying37 rfl (by kernel_rfl)) rfl ⟨rfl, below_set (below_set HA.out.below (Nat.le_refl _)) (Nat.le_refl _)⟩
    · have hx3 : decide (0 < k3) = false := decide_eq_false q3
      rw [if_neg q3]
      clear HS2 q3
      cases Q2
      · simp only [Bool.false_eq_true, if_false]
        clear HB2
        cases hb : (bits .and .u16 k4 1 != 0)
        · rw [hb] at hbl
          simp only [if_neg (by decide : ¬ false = true), Bool.false_eq_true, if_false] at hbl ⊢
          go_enter Tryd.func33, Tryd.ntmps33
          go_upto_region 1 with (fail)
          obtain ⟨W0, hW0⟩ : ∃ W0 : World, W0 = w.alloc (.cells #[.int .i64 0, .int .i64 0] 37) := ⟨_, rfl⟩
          rw [← hW0] at HA ⊢
          clear hW0
          obtain ⟨_, _, _, x0, x1, x2, x3, x4, x5⟩ := HA.out
          go_wp2_with (first
              | (go_at_call 58; refine Calls.mono (HF.out _) ?_; rintro e w1 ⟨rfl, hb1⟩; replace HA := Aside0.mk (HA.out.step hb1); clear HF hb1 x0 x1 x2 x3 x4 x5; obtain ⟨_, _, z, x0, x1, x2, x3, x4, x5⟩ := HA.out; (try clear z0 z1 f0 f1); have z0 := blk_cell z 0; have z1 := blk_cell z 1; have f0 := blk_frozen z 0; have f1 := blk_frozen z 1; simp at z0 z1; clear z)
              | (go_at_call 58; refine Calls.mono (HF2.out _) ?_; rintro e w1 ⟨rfl, hb1⟩; replace HA := Aside0.mk (HA.out.step hb1); clear HF2 hb1 x0 x1 x2 x3 x4 x5; obtain ⟨_, _, z, x0, x1, x2, x3, x4, x5⟩ := HA.out; (try clear z0 z1 f0 f1); have z0 := blk_cell z 0; have z1 := blk_cell z 1; have f0 := blk_frozen z 0; have f1 := blk_frozen z 1; simp at z0 z1; clear z))
          refine bodyPost_ret (results_cell_row rfl _ _ w.heap.size 37 #[.int .i64 _, .int .i64 _] (0, 0) _ rfl (blk_put (cs := #[.int .i64 _, .int .i64 0]) (blk_put (cs := #[.int .i64 0, .int .i64 0]) HA.out.z 0 _ rfl) 1 _ rfl) Tryd.underlying37 rfl (by kernel_rfl)) rfl ⟨rfl, below_set (below_set HA.out.below (Nat.le_refl _)) (Nat.le_refl _)⟩
        · rw [hb] at hbl
          simp only [if_true] at hbl ⊢
          go_enter Tryd.func33, Tryd.ntmps33
          go_upto_region 1 with (fail)
          obtain ⟨W0, hW0⟩ : ∃ W0 : World, W0 = w.alloc (.cells #[.int .i64 0, .int .i64 0] 37) := ⟨_, rfl⟩
          rw [← hW0] at HA ⊢
          clear hW0
          obtain ⟨_, _, _, x0, x1, x2, x3, x4, x5⟩ := HA.out
          go_wp2_with (first
              | (go_at_call 58; refine Calls.mono (HF.out _) ?_; rintro e w1 ⟨rfl, hb1⟩; replace HA := Aside0.mk (HA.out.step hb1); clear HF hb1 x0 x1 x2 x3 x4 x5; obtain ⟨_, _, z, x0, x1, x2, x3, x4, x5⟩ := HA.out; (try clear z0 z1 f0 f1); have z0 := blk_cell z 0; have z1 := blk_cell z 1; have f0 := blk_frozen z 0; have f1 := blk_frozen z 1; simp at z0 z1; clear z)
              | (go_at_call 59; refine Calls.mono (HS.out _) ?_; rintro e w1 ⟨rfl, hb1⟩; replace HA := Aside0.mk (HA.out.step hb1); clear HS hb1 x0 x1 x2 x3 x4 x5; obtain ⟨_, _, z, x0, x1, x2, x3, x4, x5⟩ := HA.out; (try clear z0 z1 f0 f1); have z0 := blk_cell z 0; have z1 := blk_cell z 1; have f0 := blk_frozen z 0; have f1 := blk_frozen z 1; simp at z0 z1; clear z)
              | (go_at_call 58; refine Calls.mono (HF2.out _) ?_; rintro e w1 ⟨rfl, hb1⟩; replace HA := Aside0.mk (HA.out.step hb1); clear HF2 hb1 x0 x1 x2 x3 x4 x5; obtain ⟨_, _, z, x0, x1, x2, x3, x4, x5⟩ := HA.out; (try clear z0 z1 f0 f1); have z0 := blk_cell z 0; have z1 := blk_cell z 1; have f0 := blk_frozen z 0; have f1 := blk_frozen z 1; simp at z0 z1; clear z))
          refine bodyPost_ret (results_cell_row rfl _ _ w.heap.size 37 #[.int .i64 _, .int .i64 _] (0, 0) _ rfl (blk_put (cs := #[.int .i64 _, .int .i64 0]) (blk_put (cs := #[.int .i64 0, .int .i64 0]) HA.out.z 0 _ rfl) 1 _ rfl) Tryd.underlying37 rfl (by kernel_rfl)) rfl ⟨rfl, below_set (below_set HA.out.below (Nat.le_refl _)) (Nat.le_refl _)⟩
      · simp only [if_true]
        cases hb : (bits .and .u16 k4 1 != 0)
        · rw [hb] at hbl
          simp only [if_neg (by decide : ¬ false = true), Bool.false_eq_true, if_false] at hbl ⊢
          go_enter Tryd.func33, Tryd.ntmps33
          go_upto_region 1 with (fail)
          obtain ⟨W0, hW0⟩ : ∃ W0 : World, W0 = w.alloc (.cells #[.int .i64 0, .int .i64 0] 37) := ⟨_, rfl⟩
          rw [← hW0] at HA ⊢
          clear hW0
          obtain ⟨_, _, _, x0, x1, x2, x3, x4, x5⟩ := HA.out
          go_wp2_with (first
              | (go_at_call 58; refine Calls.mono (HF.out _) ?_; rintro e w1 ⟨rfl, hb1⟩; replace HA := Aside0.mk (HA.out.step hb1); clear HF hb1 x0 x1 x2 x3 x4 x5; obtain ⟨_, _, z, x0, x1, x2, x3, x4, x5⟩ := HA.out; (try clear z0 z1 f0 f1); have z0 := blk_cell z 0; have z1 := blk_cell z 1; have f0 := blk_frozen z 0; have f1 := blk_frozen z 1; simp at z0 z1; clear z)
              | (go_at_call 58; refine Calls.mono (HF2.out _) ?_; rintro e w1 ⟨rfl, hb1⟩; replace HA := Aside0.mk (HA.out.step hb1); clear HF2 hb1 x0 x1 x2 x3 x4 x5; obtain ⟨_, _, z, x0, x1, x2, x3, x4, x5⟩ := HA.out; (try clear z0 z1 f0 f1); have z0 := blk_cell z 0; have z1 := blk_cell z 1; have f0 := blk_frozen z 0; have f1 := blk_frozen z 1; simp at z0 z1; clear z)
              | (go_at_call 60; refine Calls.mono (HB2.out _) ?_; rintro e w1 ⟨rfl, hb1⟩; replace HA := Aside0.mk (HA.out.step hb1); clear HB2 hb1 x0 x1 x2 x3 x4 x5; obtain ⟨_, _, z, x0, x1, x2, x3, x4, x5⟩ := HA.out; (try clear z0 z1 f0 f1); have z0 := blk_cell z 0; have z1 := blk_cell z 1; have f0 := blk_frozen z 0; have f1 := blk_frozen z 1; simp at z0 z1; clear z))
          refine bodyPost_ret (results_cell_row rfl _ _ w.heap.size 37 #[.int .i64 _, .int .i64 _] (0, 0) _ rfl (blk_put (cs := #[.int .i64 _, .int .i64 0]) (blk_put (cs := #[.int .i64 0, .int .i64 0]) HA.out.z 0 _ rfl) 1 _ rfl) Tryd.underlying37 rfl (by kernel_rfl)) rfl ⟨rfl, below_set (below_set HA.out.below (Nat.le_refl _)) (Nat.le_refl _)⟩
        · rw [hb] at hbl
          simp only [if_true] at hbl ⊢
          go_enter Tryd.func33, Tryd.ntmps33
          go_upto_region 1 with (fail)
          obtain ⟨W0, hW0⟩ : ∃ W0 : World, W0 = w.alloc (.cells #[.int .i64 0, .int .i64 0] 37) := ⟨_, rfl⟩
          rw [← hW0] at HA ⊢
          clear hW0
          obtain ⟨_, _, _, x0, x1, x2, x3, x4, x5⟩ := HA.out
          go_wp2_with (first
              | (go_at_call 58; refine Calls.mono (HF.out _) ?_; rintro e w1 ⟨rfl, hb1⟩; replace HA := Aside0.mk (HA.out.step hb1); clear HF hb1 x0 x1 x2 x3 x4 x5; obtain ⟨_, _, z, x0, x1, x2, x3, x4, x5⟩ := HA.out; (try clear z0 z1 f0 f1); have z0 := blk_cell z 0; have z1 := blk_cell z 1; have f0 := blk_frozen z 0; have f1 := blk_frozen z 1; simp at z0 z1; clear z)
              | (go_at_call 59; refine Calls.mono (HS.out _) ?_; rintro e w1 ⟨rfl, hb1⟩; replace HA := Aside0.mk (HA.out.step hb1); clear HS hb1 x0 x1 x2 x3 x4 x5; obtain ⟨_, _, z, x0, x1, x2, x3, x4, x5⟩ := HA.out; (try clear z0 z1 f0 f1); have z0 := blk_cell z 0; have z1 := blk_cell z 1; have f0 := blk_frozen z 0; have f1 := blk_frozen z 1; simp at z0 z1; clear z)
              | (go_at_call 58; refine Calls.mono (HF2.out _) ?_; rintro e w1 ⟨rfl, hb1⟩; replace HA := Aside0.mk (HA.out.step hb1); clear HF2 hb1 x0 x1 x2 x3 x4 x5; obtain ⟨_, _, z, x0, x1, x2, x3, x4, x5⟩ := HA.out; (try clear z0 z1 f0 f1); have z0 := blk_cell z 0; have z1 := blk_cell z 1; have f0 := blk_frozen z 0; have f1 := blk_frozen z 1; simp at z0 z1; clear z)
              | (go_at_call 60; refine Calls.mono (HB2.out _) ?_; rintro e w1 ⟨rfl, hb1⟩; replace HA := Aside0.mk (HA.out.step hb1); clear HB2 hb1 x0 x1 x2 x3 x4 x5; obtain ⟨_, _, z, x0, x1, x2, x3, x4, x5⟩ := HA.out; (try clear z0 z1 f0 f1); have z0 := blk_cell z 0; have z1 := blk_cell z 1; have f0 := blk_frozen z 0; have f1 := blk_frozen z 1; simp at z0 z1; clear z))
          refine bodyPost_ret (results_cell_row rfl _ _ w.heap.size 37 #[.int .i64 _, .int .i64 _] (0, 0) _ rfl (blk_put (cs := #[.int .i64 _, .int .i64 0]) (blk_put (cs := #[.int .i64 0, .int .i64 0]) HA.out.z 0 _ rfl) 1 _ rfl) Tryd.underlying37 rfl (by kernel_rfl)) rfl ⟨rfl, below_set (below_set HA.out.below (Nat.le_refl _)) (Nat.le_refl _)⟩
  · have hx2 : decide (0 < k2) = false := decide_eq_false q2
    rw [if_neg q2]
    clear HF2 HS2 HB2 hP2 hbl2 q2
    cases hb : (bits .and .u16 k4 1 != 0)
    · rw [hb] at hbl
      simp only [if_neg (by decide : ¬ false = true), Bool.false_eq_true, if_false] at hbl ⊢
      go_enter Tryd.func33, Tryd.ntmps33
      go_upto_region 1 with (fail)
      obtain ⟨W0, hW0⟩ : ∃ W0 : World, W0 = w.alloc (.cells #[.int .i64 0, .int .i64 0] 37) := ⟨_, rfl⟩
      rw [← hW0] at HA ⊢
      clear hW0
      obtain ⟨_, _, _, x0, x1, x2, x3, x4, x5⟩ := HA.out
      go_wp2_with (first
          | (go_at_call 58; refine Calls.mono (HF.out _) ?_; rintro e w1 ⟨rfl, hb1⟩; replace HA := Aside0.mk (HA.out.step hb1); clear HF hb1 x0 x1 x2 x3 x4 x5; obtain ⟨_, _, z, x0, x1, x2, x3, x4, x5⟩ := HA.out; (try clear z0 z1 f0 f1); have z0 := blk_cell z 0; have z1 := blk_cell z 1; have f0 := blk_frozen z 0; have f1 := blk_frozen z 1; simp at z0 z1; clear z))
      refine bodyPost_ret (results_cell_row rfl _ _ w.heap.size 37 #[.int .i64 _, .int .i64 _] (0, 0) _ rfl (blk_put (cs := #[.int .i64 _, .int .i64 0]) (blk_put (cs := #[.int .i64 0, .int .i64 0]) HA.out.z 0 _ rfl) 1 _ rfl) Tryd.underlying37 rfl (by kernel_rfl)) rfl ⟨rfl, below_set (below_set HA.out.below (Nat.le_refl _)) (Nat.le_refl _)⟩
    · rw [hb] at hbl
      simp only [if_true] at hbl ⊢
      go_enter Tryd.func33, Tryd.ntmps33
      go_upto_region 1 with (fail)
      obtain ⟨W0, hW0⟩ : ∃ W0 : World, W0 = w.alloc (.cells #[.int .i64 0, .int .i64 0] 37) := ⟨_, rfl⟩
      rw [← hW0] at HA ⊢
      clear hW0
      obtain ⟨_, _, _, x0, x1, x2, x3, x4, x5⟩ := HA.out
      go_wp2_with (first
          | (go_at_call 58; refine Calls.mono (HF.out _) ?_; rintro e w1 ⟨rfl, hb1⟩; replace HA := Aside0.mk (HA.out.step hb1); clear HF hb1 x0 x1 x2 x3 x4 x5; obtain ⟨_, _, z, x0, x1, x2, x3, x4, x5⟩ := HA.out; (try clear z0 z1 f0 f1); have z0 := blk_cell z 0; have z1 := blk_cell z 1; have f0 := blk_frozen z 0; have f1 := blk_frozen z 1; simp at z0 z1; clear z)
          | (go_at_call 59; refine Calls.mono (HS.out _) ?_; rintro e w1 ⟨rfl, hb1⟩; replace HA := Aside0.mk (HA.out.step hb1); clear HS hb1 x0 x1 x2 x3 x4 x5; obtain ⟨_, _, z, x0, x1, x2, x3, x4, x5⟩ := HA.out; (try clear z0 z1 f0 f1); have z0 := blk_cell z 0; have z1 := blk_cell z 1; have f0 := blk_frozen z 0; have f1 := blk_frozen z 1; simp at z0 z1; clear z))
      refine bodyPost_ret (results_cell_row rfl _ _ w.heap.size 37 #[.int .i64 _, .int .i64 _] (0, 0) _ rfl (blk_put (cs := #[.int .i64 _, .int .i64 0]) (blk_put (cs := #[.int .i64 0, .int .i64 0]) HA.out.z 0 _ rfl) 1 _ rfl) Tryd.underlying37 rfl (by kernel_rfl)) rfl ⟨rfl, below_set (below_set HA.out.below (Nat.le_refl _)) (Nat.le_refl _)⟩
end Go.Proofs.YtnnoegjgaelafaaDoor.Pr
namespace Go.Proofs.YtnnoegjgaelafaaDoor.Pr
open Go.RowKit Go.Proofs.YtnnoegjgaelafaaDoorW.PrintWords Go.Proofs.YtnnoegjgaelafaaDoorW.PrintLast
set_option linter.unusedVariables false
set_option linter.unusedSimpArgs false

def zKy : Ky := z33
def zCol : Col := ⟨zKy, false, 0, 0⟩
/-- A column's cells stand at p. -/
structure ColAt (w : World) (p : Addr) (c : Col) : Prop where
  key : KeyAt w p c.key
  filt : w.cell? ⟨p.block, p.off + 6, none⟩ = some (.bool c.filt)
  cmp : w.cell? ⟨p.block, p.off + 7, none⟩ = some (.func (.func 53) #[] #[.pointer (some ⟨c.kb, 0, none⟩)])
  emb : w.cell? ⟨p.block, p.off + 8, none⟩ = some (.func (.func 55) #[] #[.pointer (some ⟨c.kb, 0, none⟩)])
  kind : w.cell? ⟨c.kb, 0, none⟩ = some (.int .u16 c.kind)
theorem at_Col {w : World} {A : Option Addr} {n : Nat} {cols : List Col} (h : Kd.C kCol w A n cols) (i : Nat) (h1 : i < n) : ∃ ad, A = some ad ∧ ColAt w (ad.add (i * 9)) (cols.getD i zCol) := by
  obtain ⟨ad, c, e, _, hK, hc0⟩ := Kd.C_get h zCol (i : Int) (by omega) (by omega)
  have hc : ∀ j u, c[j]? = some u → w.cell? (ad.add (i * 9 + j)) = some u := hc0
  obtain ⟨hcs, hh⟩ := hK
  simp only [Int.toNat_natCast] at hcs hh
  generalize cols.getD i zCol = x at hcs hh ⊢
  subst hcs
  refine ⟨ad, e, ⟨hc 0 _ rfl, ?_, ?_, ?_, ?_, ?_⟩, ?_, ?_, ?_, ?_⟩
  · rw [← add_field _ _ 1 (by omega)]; exact hc 1 _ rfl
  · rw [← add_field _ _ 2 (by omega)]; exact hc 2 _ rfl
  · rw [← add_field _ _ 3 (by omega)]; exact hc 3 _ rfl
  · rw [← add_field _ _ 4 (by omega)]; exact hc 4 _ rfl
  · rw [← add_field _ _ 5 (by omega)]; exact hc 5 _ rfl
  · rw [← add_field _ _ 6 (by omega)]; exact hc 6 _ rfl
  · rw [← add_field _ _ 7 (by omega)]; exact hc 7 _ rfl
  · rw [← add_field _ _ 8 (by omega)]; exact hc 8 _ rfl
  · unfold Col.holds at hh
    unfold World.cell?
    rw [hh]; rfl
theorem ColAt.keep {w w1 : World} {p : Addr} {c : Col} (h : ColAt w p c) (hb : Below w.heap.size w w1) : ColAt w1 p c :=
  ⟨h.key.keep hb, cell_stays hb h.filt, cell_stays hb h.cmp, cell_stays hb h.emb, cell_stays hb h.kind⟩
theorem ColsOf.len {cols : List Col} {K : List Ky} (h : ColsOf cols K) : cols.length = K.length := by have := congrArg List.length h; simpa using this
theorem ColsOf.at {cols : List Col} {K : List Ky} (h : ColsOf cols K) (i : Nat) (hi : i < K.length) : (cols.getD i zCol).key = K.getD i zKy ∧ (cols.getD i zCol).filt = (bits .and .u16 (kindI (K.getD i zKy)) 240 == 0) ∧ (cols.getD i zCol).kind = kindI (K.getD i zKy) := by
  have hl := h.len
  have e := congrArg (fun l => l[i]?) h
  simp only [List.getElem?_map, List.getElem?_eq_getElem hi, List.getElem?_eq_getElem (hl ▸ hi : i < cols.length), Option.map_some, Option.some.injEq, Prod.mk.injEq] at e
  simp only [List.getD_eq_getElem?_getD, List.getElem?_eq_getElem hi, List.getElem?_eq_getElem (hl ▸ hi : i < cols.length), Option.getD_some]
  exact e
/-- An order's cells. -/
theorem ord_cells {w : World} {g : Nat} {K : List Ky} {t : Int} {last turned : Bool} (h : OrdW w g K t last turned) : ∃ A c cols, w.cell? ⟨g, 0, none⟩ = some (.slice A K.length c) ∧ w.cell? ⟨g, 1, none⟩ = some (.int .i64 t) ∧ w.cell? ⟨g, 2, none⟩ = some (.bool last) ∧ w.cell? ⟨g, 3, none⟩ = some (.bool turned) ∧ K.length ≤ c ∧ Kd.C kCol w A K.length cols ∧ ColsOf cols K := by
  obtain ⟨v, cols, h1, h3, h4⟩ := h
  obtain ⟨A, c, rfl, h2, h5⟩ := Kd.R_reads h3
  rw [h4.len] at h1 h2 h5
  refine ⟨A, c, cols, ?_⟩
  exact ⟨blk_cell h1 0, blk_cell h1 1, blk_cell h1 2, blk_cell h1 3, h2, h5, h4⟩
theorem count_calls (K : List Ky) (t : Int) (g : Nat) (last turned : Bool) (w : World) (ho : OrdW w g K t last turned) :
    Calls Tryd.prog 14 #[.pointer (some ⟨g, 0, none⟩)] w fun e w' => e = .returned (.int .i64 K.length) ∧ Below w.heap.size w w' := by
  have hu := Tryd.underlying69
  obtain ⟨A, c, cols, x0, x1, x2, x3, hlc, hC, hO⟩ := ord_cells ho
  clear ho hC hO
  go_enter Tryd.func14, Tryd.ntmps14
  go_wp2
  go_ret
  exact ⟨rfl, Below.refl _ _⟩
theorem count_nil (w : World) : Calls Tryd.prog 14 #[.pointer none] w fun e w' => e = .returned (.int .i64 0) ∧ Below w.heap.size w w' := by
  have hu := Tryd.underlying69
  go_enter Tryd.func14, Tryd.ntmps14
  go_wp2
  go_ret
  exact ⟨rfl, Below.refl _ _⟩
/-- The part of a line that is key number i. -/
def spanAt (s : ByteArray) (t : Int) (K : List Ky) (i : Int) : Int × Int := if 0 ≤ i ∧ i < (K.length : Int) then spanI s t (K.getD i.toNat zKy) else (0, 0)
set_option maxHeartbeats 4000000 in
set_option maxRecDepth 100000 in
theorem ospan_in (s : ByteArray) (hs : s.size ≤ 1048576) (K : List Ky) (hK : ∀ k ∈ K, Fit k) (t : Int) (h1 : -1 ≤ t) (h2 : t ≤ 255) (g : Nat) (last turned : Bool) (w : World) (ho : OrdW w g K t last turned) (i : Nat) (hi : i < K.length) (hkl : K.length ≤ 16) :
    Calls Tryd.prog 15 #[.pointer (some ⟨g, 0, none⟩), .string s, .int .i64 i] w fun e w' => e = .returned (.agg #[.int .i64 (spanI s t (K.getD i zKy)).1, .int .i64 (spanI s t (K.getD i zKy)).2]) ∧ Below w.heap.size w w' := by
  have hu := Tryd.underlying69
  have hu2 := Tryd.underlying71
  have hu3 := Tryd.underlying37
  have hu4 := Tryd.underlying67
  have hinf := infoCol
  have HN := Aside0.mk (fun W hb => count_calls K t g last turned W (ho.below hb))
  obtain ⟨A, c, cols, x0, x1, x2, x3, hlc, hC, hO⟩ := ord_cells ho
  obtain ⟨ad, rfl, hcol⟩ := at_Col hC i hi
  have hk := (hO.at i hi).1
  have hfit : Fit (K.getD i zKy) := hK _ (by rw [List.getD_eq_getElem?_getD, List.getElem?_eq_getElem hi, Option.getD_some]; exact List.getElem_mem hi)
  have HS := Aside0.mk (fun (W : World) (hb : Below w.heap.size w W) => span_calls s hs t h1 h2 (K.getD i zKy) hfit (ad.add (i * 9)) W (by rw [← hk]; exact hcol.key.keep hb))
  have hi0 : decide ((i : Int) < 0) = false := decide_eq_false (by omega)
  have hi1 : decide ((K.length : Int) ≤ (i : Int)) = false := decide_eq_false (by omega)
  clear ho hC hO x2 x3 hcol hk hfit
  generalize spanI s t (K.getD i zKy) = r at *
  obtain ⟨r1, r2⟩ := r
  generalize K.length = n at *
  go_enter Tryd.func15, Tryd.ntmps15
  go_upto_region 1 with (fail)
  obtain ⟨W0, hW0⟩ : ∃ W0 : World, W0 = w.alloc (.cells #[.int .i64 0, .int .i64 0] 37) := ⟨_, rfl⟩
  have HB : Aside0 (Below w.heap.size w W0) := ⟨by rw [hW0]; exact (Below.refl _ _).alloc (Nat.le_refl _) _⟩
  have HZ : Aside0 (W0.heap[w.heap.size]? = some (.cells #[.int .i64 0, .int .i64 0] 37 (0, 0))) := ⟨by rw [hW0]; exact heap_alloc_new _ _⟩
  rw [← hW0]
  clear hW0
  go_wp2_with (first
    | (go_at_call 14; refine Calls.mono (HN.out _ HB.out) ?_; rintro e w1 ⟨rfl, hb1⟩; replace HZ := Aside0.mk ((hb1.block _ (blk_lt HZ.out)).trans HZ.out); replace HB := Aside0.mk (bstep HB.out hb1); clear hb1 HN))
  have hgl : g < w.heap.size := World.block_lt_of_cell? w _ x0
  have hne : g ≠ w.heap.size := by omega
  have HBd := aside_drew HB
  have y0 : w1.drew.cell? ⟨g, 0, none⟩ = some (.slice (some ad) n c) := (HB.out.cell (p := ⟨g, 0, none⟩) hgl).trans x0
  have y1 : w1.drew.cell? ⟨g, 1, none⟩ = some (.int .i64 t) := (HB.out.cell (p := ⟨g, 1, none⟩) hgl).trans x1
  clear x0 x1
  go_region_held3 (fun w' => w'.cell? ⟨g, 0, none⟩ = some (.slice (some ad) n c) ∧ w'.cell? ⟨g, 1, none⟩ = some (.int .i64 t) ∧ Aside0 (Below w.heap.size w w'))
    ((refine ⟨?_, ?_, ?_⟩ <;> first | assumption | exact far_keep hne (far_keep hne (by assumption)) | exact ⟨below_set (below_set (Aside0.out (by assumption)) (Nat.le_refl _)) (Nat.le_refl _)⟩))
    (first
      | (go_at_call 33; refine Calls.mono (HS.out _ (Aside0.out (by assumption))) ?_; rintro e w2 ⟨rfl, hb2⟩; have HB2 := Aside0.mk (bstep HBd.out hb2); have u0 := cell_stays hb2 y0; have u1 := cell_stays hb2 y1; have HZ2 : Aside0 (w2.heap[w.heap.size]? = some (.cells #[.int .i64 0, .int .i64 0] 37 (0, 0))) := Aside0.mk ((hb2.block _ (blk_lt (w := w1.drew) HZ.out)).trans HZ.out); have z := HZ2.out; have z0 := blk_cell z 0; have z1 := blk_cell z 1; have f0 := blk_frozen z 0; have f1 := blk_frozen z 1; simp at z0 z1; clear z hb2))
  all_goals
    go_wp2
    refine bodyPost_ret (results_cell_row rfl _ _ w.heap.size 37 #[.int .i64 _, .int .i64 _] (0, 0) _ rfl (blk_put (cs := #[.int .i64 _, .int .i64 0]) (blk_put (cs := #[.int .i64 0, .int .i64 0]) HZ2.out 0 _ rfl) 1 _ rfl) Tryd.underlying37 rfl (by kernel_rfl)) rfl ⟨rfl, below_set (below_set HB2.out (Nat.le_refl _)) (Nat.le_refl _)⟩
set_option maxHeartbeats 4000000 in
set_option maxRecDepth 100000 in
theorem ospan_out (s : ByteArray) (K : List Ky) (t : Int) (g : Nat) (last turned : Bool) (w : World) (ho : OrdW w g K t last turned) (i : Int) (hi : ¬ (0 ≤ i ∧ i < (K.length : Int))) :
    Calls Tryd.prog 15 #[.pointer (some ⟨g, 0, none⟩), .string s, .int .i64 i] w fun e w' => e = .returned (.agg #[.int .i64 0, .int .i64 0]) ∧ Below w.heap.size w w' := by
  have hu3 := Tryd.underlying37
  have HN := Aside0.mk (fun W hb => count_calls K t g last turned W (ho.below hb))
  clear ho
  generalize K.length = n at *
  have HB : Aside0 (Below w.heap.size w (w.alloc (.cells #[.int .i64 0, .int .i64 0] 37))) := ⟨(Below.refl _ _).alloc (Nat.le_refl _) _⟩
  have HZ : Aside0 ((w.alloc (.cells #[.int .i64 0, .int .i64 0] 37)).heap[w.heap.size]? = some (.cells #[.int .i64 0, .int .i64 0] 37 (0, 0))) := ⟨heap_alloc_new _ _⟩
  by_cases h0 : i < 0
  · have hi0 : decide (i < 0) = true := decide_eq_true h0
    clear h0 hi HN
    go_enter Tryd.func15, Tryd.ntmps15
    go_upto_region 1 with (fail)
    obtain ⟨W0, hW0⟩ : ∃ W0 : World, W0 = w.alloc (.cells #[.int .i64 0, .int .i64 0] 37) := ⟨_, rfl⟩
    rw [← hW0] at HB HZ ⊢
    clear hW0
    have z := HZ.out
    have z0 := blk_cell z 0
    have z1 := blk_cell z 1
    have f0 := blk_frozen z 0
    have f1 := blk_frozen z 1
    simp at z0 z1
    clear z
    go_wp2
    refine bodyPost_ret (results_cell_row rfl _ _ w.heap.size 37 #[.int .i64 _, .int .i64 _] (0, 0) _ rfl (blk_put (cs := #[.int .i64 _, .int .i64 0]) (blk_put (cs := #[.int .i64 0, .int .i64 0]) HZ.out 0 _ rfl) 1 _ rfl) Tryd.underlying37 rfl (by kernel_rfl)) rfl ⟨rfl, below_set (below_set HB.out (Nat.le_refl _)) (Nat.le_refl _)⟩
  · have hi0 : decide (i < 0) = false := decide_eq_false h0
    have hi1 : decide ((n : Int) ≤ i) = true := decide_eq_true (by omega)
    clear h0 hi
    go_enter Tryd.func15, Tryd.ntmps15
    go_upto_region 1 with (fail)
    obtain ⟨W0, hW0⟩ : ∃ W0 : World, W0 = w.alloc (.cells #[.int .i64 0, .int .i64 0] 37) := ⟨_, rfl⟩
    rw [← hW0] at HB HZ ⊢
    clear hW0
    go_wp2_with (first
      | (go_at_call 14; refine Calls.mono (HN.out _ HB.out) ?_; rintro e w1 ⟨rfl, hb1⟩; replace HZ := Aside0.mk ((hb1.block _ (blk_lt HZ.out)).trans HZ.out); replace HB := Aside0.mk (bstep HB.out hb1); clear hb1 HN; have z := HZ.out; have z0 := blk_cell z 0; have z1 := blk_cell z 1; have f0 := blk_frozen z 0; have f1 := blk_frozen z 1; simp at z0 z1; clear z))
    refine bodyPost_ret (results_cell_row rfl _ _ w.heap.size 37 #[.int .i64 _, .int .i64 _] (0, 0) _ rfl (blk_put (cs := #[.int .i64 _, .int .i64 0]) (blk_put (cs := #[.int .i64 0, .int .i64 0]) HZ.out 0 _ rfl) 1 _ rfl) Tryd.underlying37 rfl (by kernel_rfl)) rfl ⟨rfl, below_set (below_set HB.out (Nat.le_refl _)) (Nat.le_refl _)⟩
theorem ospan_calls (s : ByteArray) (hs : s.size ≤ 1048576) (K : List Ky) (hK : ∀ k ∈ K, Fit k) (t : Int) (h1 : -1 ≤ t) (h2 : t ≤ 255) (g : Nat) (last turned : Bool) (w : World) (ho : OrdW w g K t last turned) (i : Int) (hkl : K.length ≤ 16) :
    Calls Tryd.prog 15 #[.pointer (some ⟨g, 0, none⟩), .string s, .int .i64 i] w fun e w' => e = .returned (.agg #[.int .i64 (spanAt s t K i).1, .int .i64 (spanAt s t K i).2]) ∧ Below w.heap.size w w' := by
  unfold spanAt
  by_cases hi : 0 ≤ i ∧ i < (K.length : Int)
  · rw [if_pos hi]
    obtain ⟨n, rfl⟩ := Int.eq_ofNat_of_zero_le hi.1
    exact ospan_in s hs K hK t h1 h2 g last turned w ho n (by omega) hkl
  · rw [if_neg hi]
    exact ospan_out s K t g last turned w ho i hi
end Go.Proofs.YtnnoegjgaelafaaDoor.Pr
namespace Go.Proofs.YtnnoegjgaelafaaDoor.Pr
open Go.RowKit Go.Proofs.YtnnoegjgaelafaaDoorW.PrintWords Go.Proofs.YtnnoegjgaelafaaDoorW.PrintLast
set_option linter.unusedVariables false
set_option linter.unusedSimpArgs false

def nums (s : ByteArray) : List Int := s.data.toList.map fun b => (b.toNat : Int)
def keepB (d i : Bool) (x : Int) : Bool := if d then (x == 32 || x == 9 || (decide (48 ≤ x) && decide (x ≤ 57)) || (decide (65 ≤ x) && decide (x ≤ 90)) || (decide (97 ≤ x) && decide (x ≤ 122))) else if i then (decide (32 ≤ x) && decide (x ≤ 126)) else true
def foldB (f : Bool) (x : Int) : Int := if f && decide (97 ≤ x) && decide (x ≤ 122) then x - 32 else x
def filtL (d i f : Bool) (l : List Int) : List Int := (l.filter (keepB d i)).map (foldB f)
def filtS (d i f : Bool) (s : ByteArray) : ByteArray := strOfNums (filtL d i f (nums s))
theorem nums_length (s : ByteArray) : (nums s).length = s.size := by simp [nums]
theorem nums_at (s : ByteArray) (i : Nat) (h : i < s.size) : (nums s)[i]? = some ((s[i].toNat : Nat) : Int) := by
  unfold nums
  rw [List.getElem?_map, Array.getElem?_toList, Array.getElem?_eq_getElem (by exact h)]; rfl
theorem take_nums (s : ByteArray) (i : Nat) (h : i < s.size) : (nums s).take (i + 1) = (nums s).take i ++ [((s[i].toNat : Nat) : Int)] := by
  rw [List.take_add_one, nums_at s i h]; rfl
theorem filt_keep (d i f : Bool) (l : List Int) (x : Int) (h : keepB d i x = true) : filtL d i f (l ++ [x]) = filtL d i f l ++ [foldB f x] := by
  simp [filtL, List.filter_append, h]
theorem filt_drop (d i f : Bool) (l : List Int) (x : Int) (h : keepB d i x = false) : filtL d i f (l ++ [x]) = filtL d i f l := by
  simp [filtL, List.filter_append, h]
theorem filt_none (l : List Int) : filtL false false false l = l := by
  have h2 : foldB false = id := by funext x; simp [foldB]
  unfold filtL
  rw [h2, List.map_id]
  exact List.filter_eq_self.2 (fun x _ => rfl)
theorem strOf_nums (s : ByteArray) : strOfNums (nums s) = s := by
  apply ByteArray.ext
  apply Array.toList_inj.1
  rw [strOfNums_data]
  unfold nums
  rw [List.map_map]
  conv => rhs; rw [← List.map_id s.data.toList]
  apply List.map_congr_left
  intro b _
  simp
theorem filt_len (d i f : Bool) (l : List Int) : (filtL d i f l).length ≤ l.length := by
  unfold filtL; rw [List.length_map]; exact List.length_filter_le _ _
theorem cls_dict : ∀ c : Fin 256, (bits .and .u8 (cls (c.val : Int)) 3 == 0) = !keepB true false (c.val : Int) := by decide +kernel
theorem cls_print : ∀ c : Fin 256, (bits .and .u8 (cls (c.val : Int)) 4 == 0) = !keepB false true (c.val : Int) := by decide +kernel
theorem make_bytes (n : Nat) (hn : n ≤ 1048576) : ∃ M : Array Value, M.size = n ∧ ∀ W : World, (Instr.makeSlice 75 (.int .i64 0) (.int .i64 (n : Int))).run Tryd.prog W = .ok (.slice (some ⟨W.heap.size, 0, none⟩) 0 n) (W.alloc (.cells M 5)) := by
  have hi : (Tryd.prog.info? 5).map (fun i => (i.zero, i.size, i.bytes)) = some (some (.int .u8 0), 1, 1) := by kernel_rfl
  obtain ⟨i0, hi0, hz⟩ := Option.map_eq_some_iff.1 hi
  simp only [Prod.mk.injEq] at hz
  obtain ⟨hz0, hz1, hz2⟩ := hz
  refine ⟨madeCells (Value.int .u8 0).cells (((n : Nat) : Int).toNat * i0.size), by rw [size_madeCells, hz1]; simp, fun W => ?_⟩
  have h := run_make (P := Tryd.prog) W 75 5 i0 (.int .u8 0) Tryd.underlying75 hi0 hz0 .i64 .i64 0 (n : Int) (by omega) (by omega) (by rw [hz2]; omega) (by omega)
  simpa using h
theorem made_R (w : World) (M : Array Value) (n : Nat) (hM : M.size = n) (hn : n ≤ 1048576) : Kd.R (Kd.int .u8) 5 (w.alloc (.cells M 5)) w.heap.size (fun _ => True) (.slice (some ⟨w.heap.size, 0, none⟩) 0 n) [] :=
  ⟨fun _ _ => trivial, [], ⟨by simp, .inr ⟨w.heap.size, n, M, rfl, Nat.le_refl _, heap_alloc_new _ _, Nat.zero_le _, by have : maxLen = 9223372036854775807 := rfl; omega, by rw [hM]; exact (Nat.mul_one n).symm, by simp⟩⟩, Reps.none _ _⟩
theorem infoB : (Tryd.prog.info? 5).map (fun i => (i.zero, i.size, i.bytes)) = some (some (.int .u8 0), 1, 1) := by kernel_rfl
set_option maxHeartbeats 4000000 in
set_option maxRecDepth 100000 in
theorem filter_000 (s : ByteArray) (hs : s.size ≤ 1048576) (k4 : Int) (p : Addr) (w : World) (x4 : w.cell? ⟨p.block, p.off + 4, none⟩ = some (.int .u16 k4)) (hd : (bits .and .u16 k4 2 != 0) = false) (hi : (bits .and .u16 k4 8 != 0) = false) (hf : (bits .and .u16 k4 4 != 0) = false) :
    Calls Tryd.prog 39 #[.pointer (some p), .string s] w fun e w' => e = .returned (.string (filtS false false false s)) ∧ Below w.heap.size w w' := by
  have hu := Tryd.underlying33
  have hu2 := Tryd.underlying71
  go_enter Tryd.func39, Tryd.ntmps39
  go_wp2
  go_ret
  exact ⟨by unfold filtS; rw [filt_none, strOf_nums]; rfl, Below.refl _ _⟩
set_option maxHeartbeats 4000000 in
set_option maxRecDepth 100000 in
theorem filter_1x0 (s : ByteArray) (hs : s.size ≤ 1048576) (k4 : Int) (p : Addr) (w : World) (x4 : w.cell? ⟨p.block, p.off + 4, none⟩ = some (.int .u16 k4)) (hd : (bits .and .u16 k4 2 != 0) = true) (hf : (bits .and .u16 k4 4 != 0) = false) :
    Calls Tryd.prog 39 #[.pointer (some p), .string s] w fun e w' => e = .returned (.string (filtS true false false s)) ∧ Below w.heap.size w w' := by
  have hu := Tryd.underlying33
  have hu2 := Tryd.underlying71
  obtain ⟨M, hM, hmk⟩ := make_bytes s.size hs
  have HR0 := Aside0.mk (made_R w M s.size hM hs)
  have HB0 : Aside0 (Below w.heap.size w (w.alloc (.cells M 5))) := ⟨(Below.refl _ _).alloc (Nat.le_refl _) _⟩
  clear hM
  go_enter Tryd.func39, Tryd.ntmps39
  go_wp2
  clear x4 hd hf  hmk
  go_loopw [7, 45] (fun v7 v45 wr => ∃ (i : Nat) (xs : List Int), v45 = .int .i64 i ∧ i ≤ s.size ∧ Aside0 (Kd.R (Kd.int .u8) 5 wr w.heap.size (fun _ => True) v7 xs) ∧ Aside0 (xs = filtL true false false ((nums s).take i)) ∧ Aside0 (Below w.heap.size w wr)) (fun _ v45 _ => s.size - (intOf v45).toNat)
  case atStart => exact ⟨0, [], rfl, Nat.zero_le _, HR0, ⟨rfl⟩, HB0⟩
  case round =>
    clear HR0 HB0
    obtain ⟨i, xs, rfl, hi, HR, HX, HB⟩ := hrel
    have HL : Aside0 (xs.length ≤ 1048576) := ⟨by rw [HX.out]; have h1 := filt_len true false false ((nums s).take i); rw [List.length_take] at h1; omega⟩
    by_cases hlt : i < s.size
    · have hc : (s[i].toNat) < 256 := s[i].toNat_lt
      have HLT := Aside0.mk hlt
      have HT := Aside0.mk (take_nums s i hlt)
      have hd : decide (i < s.size) = true := decide_eq_true hlt
      obtain ⟨v, hv⟩ : ∃ v, cls ((s[i].toNat : Nat) : Int) = v := ⟨_, rfl⟩
      have hix := run_cls s[i].toNat hc v hv
      have hba := cls_dict ⟨s[i].toNat, hc⟩
      simp only [hv] at hba
      clear hv
      cases hkp : keepB true false ((s[i].toNat : Nat) : Int)
      · rw [hkp] at hba
        have HKp := Aside0.mk hkp
        clear hkp
        simp only [Bool.not_false] at hba
        go_wp2_with (first
            | (go_at_call 63; refine Calls.mono (classes_calls _) ?_; rintro e w' ⟨rfl, hb⟩; replace HR := Aside0.mk (Kd.R_below HR.out hb); replace HB := Aside0.mk (below_step HB.out hb); clear hb))
        exact ⟨⟨i + 1, xs, by go_num, HLT.out, HR, ⟨by rw [HT.out, filt_drop _ _ _ _ _ HKp.out, ← HX.out]⟩, HB⟩, by simp [intOf]; omega⟩
      · rw [hkp] at hba
        have HKp := Aside0.mk hkp
        clear hkp
        simp only [Bool.not_true] at hba
        go_wp2_with (first
            | (go_at_call 63; refine Calls.mono (classes_calls _) ?_; rintro e w' ⟨rfl, hb⟩; replace HR := Aside0.mk (Kd.R_below HR.out hb); replace HB := Aside0.mk (below_step HB.out hb); clear hb)
            | (at_builtin; refine Kd.R_append (Kd.int .u8) (w0 := w) w.heap.size rfl (.tmp 72) (.tmp 74) 75 5 (.int .u8 0) 1 rfl Tryd.underlying75 infoB rfl (by decide) (by omega) _ xs _ [.int .u8 _] (fun _ => True) (fun _ => False) rfl rfl rfl (fun _ hk => hk.elim) (fun _ _ => trivial) (by (with_reducible repeat (first | apply Kd.R_alloc | apply Kd.R_drewN | apply Kd.R_drew)); exact HR.out) (by repeat (first | (with_reducible first | exact HB.out | apply below_alloc | apply pw_below_drewN | apply below_drew1) | exact HB.out)) (below_size (by repeat (first | (with_reducible first | exact HB.out | apply below_alloc | apply pw_below_drewN | apply below_drew1) | exact HB.out))) (by have := HL.out; omega) ?_; intro v1 w1 ho hb hg hat; replace HR := Aside0.mk ho; replace HB := Aside0.mk hb; clear ho hb hg hat))
        have hfo : foldB false ((s[i].toNat : Nat) : Int) = ((s[i].toNat : Nat) : Int) := by simp [foldB]
        exact ⟨⟨i + 1, _, by go_num, HLT.out, HR, ⟨by rw [HT.out, filt_keep _ _ _ _ _ HKp.out, hfo, ← HX.out]⟩, HB⟩, by simp [intOf]; omega⟩
    · have hd : decide (i < s.size) = false := decide_eq_false hlt
      have hge : i = s.size := by omega
      subst hge
      have hcv := own_string (P := Tryd.prog) Tryd.underlying75 Tryd.underlying5 Tryd.underlying9 (Kd.own_of_R HR.out)
      go_wp2
      go_ret
      exact ⟨by unfold filtS; rw [HX.out, List.take_of_length_le (by rw [nums_length]; exact Nat.le_refl _)]; rfl, by repeat (first | (with_reducible first | exact HB.out | apply below_alloc | apply pw_below_drewN | apply below_drew1) | exact HB.out)⟩
set_option maxHeartbeats 4000000 in
set_option maxRecDepth 100000 in
theorem filter_1x1 (s : ByteArray) (hs : s.size ≤ 1048576) (k4 : Int) (p : Addr) (w : World) (x4 : w.cell? ⟨p.block, p.off + 4, none⟩ = some (.int .u16 k4)) (hd : (bits .and .u16 k4 2 != 0) = true) (hf : (bits .and .u16 k4 4 != 0) = true) :
    Calls Tryd.prog 39 #[.pointer (some p), .string s] w fun e w' => e = .returned (.string (filtS true false true s)) ∧ Below w.heap.size w w' := by
  have hu := Tryd.underlying33
  have hu2 := Tryd.underlying71
  obtain ⟨M, hM, hmk⟩ := make_bytes s.size hs
  have HR0 := Aside0.mk (made_R w M s.size hM hs)
  have HB0 : Aside0 (Below w.heap.size w (w.alloc (.cells M 5))) := ⟨(Below.refl _ _).alloc (Nat.le_refl _) _⟩
  clear hM
  go_enter Tryd.func39, Tryd.ntmps39
  go_wp2
  clear x4 hd hf  hmk
  go_loopw [7, 45] (fun v7 v45 wr => ∃ (i : Nat) (xs : List Int), v45 = .int .i64 i ∧ i ≤ s.size ∧ Aside0 (Kd.R (Kd.int .u8) 5 wr w.heap.size (fun _ => True) v7 xs) ∧ Aside0 (xs = filtL true false true ((nums s).take i)) ∧ Aside0 (Below w.heap.size w wr)) (fun _ v45 _ => s.size - (intOf v45).toNat)
  case atStart => exact ⟨0, [], rfl, Nat.zero_le _, HR0, ⟨rfl⟩, HB0⟩
  case round =>
    clear HR0 HB0
    obtain ⟨i, xs, rfl, hi, HR, HX, HB⟩ := hrel
    have HL : Aside0 (xs.length ≤ 1048576) := ⟨by rw [HX.out]; have h1 := filt_len true false true ((nums s).take i); rw [List.length_take] at h1; omega⟩
    by_cases hlt : i < s.size
    · have hc : (s[i].toNat) < 256 := s[i].toNat_lt
      have HLT := Aside0.mk hlt
      have HT := Aside0.mk (take_nums s i hlt)
      have hd : decide (i < s.size) = true := decide_eq_true hlt
      obtain ⟨v, hv⟩ : ∃ v, cls ((s[i].toNat : Nat) : Int) = v := ⟨_, rfl⟩
      have hix := run_cls s[i].toNat hc v hv
      have hba := cls_dict ⟨s[i].toNat, hc⟩
      simp only [hv] at hba
      clear hv
      cases hkp : keepB true false ((s[i].toNat : Nat) : Int)
      · rw [hkp] at hba
        have HKp := Aside0.mk hkp
        clear hkp
        simp only [Bool.not_false] at hba
        go_wp2_with (first
            | (go_at_call 63; refine Calls.mono (classes_calls _) ?_; rintro e w' ⟨rfl, hb⟩; replace HR := Aside0.mk (Kd.R_below HR.out hb); replace HB := Aside0.mk (below_step HB.out hb); clear hb))
        exact ⟨⟨i + 1, xs, by go_num, HLT.out, HR, ⟨by rw [HT.out, filt_drop _ _ _ _ _ HKp.out, ← HX.out]⟩, HB⟩, by simp [intOf]; omega⟩
      · rw [hkp] at hba
        have HKp := Aside0.mk hkp
        clear hkp
        simp only [Bool.not_true] at hba
        by_cases ha : 97 ≤ s[i].toNat
        · have hxa : decide (97 ≤ s[i].toNat) = true := decide_eq_true ha
          by_cases hz : s[i].toNat ≤ 122
          · have hxz : decide (s[i].toNat ≤ 122) = true := decide_eq_true hz
            go_wp2_with (first
                | (go_at_call 63; refine Calls.mono (classes_calls _) ?_; rintro e w' ⟨rfl, hb⟩; replace HR := Aside0.mk (Kd.R_below HR.out hb); replace HB := Aside0.mk (below_step HB.out hb); clear hb)
                | (at_builtin; refine Kd.R_append (Kd.int .u8) (w0 := w) w.heap.size rfl (.tmp 72) (.tmp 74) 75 5 (.int .u8 0) 1 rfl Tryd.underlying75 infoB rfl (by decide) (by omega) _ xs _ [.int .u8 _] (fun _ => True) (fun _ => False) rfl rfl rfl (fun _ hk => hk.elim) (fun _ _ => trivial) (by (with_reducible repeat (first | apply Kd.R_alloc | apply Kd.R_drewN | apply Kd.R_drew)); exact HR.out) (by repeat (first | (with_reducible first | exact HB.out | apply below_alloc | apply pw_below_drewN | apply below_drew1) | exact HB.out)) (below_size (by repeat (first | (with_reducible first | exact HB.out | apply below_alloc | apply pw_below_drewN | apply below_drew1) | exact HB.out))) (by have := HL.out; omega) ?_; intro v1 w1 ho hb hg hat; replace HR := Aside0.mk ho; replace HB := Aside0.mk hb; clear ho hb hg hat))
            have hfo : foldB true ((s[i].toNat : Nat) : Int) = ((s[i].toNat : Nat) : Int) - 32 := by simp [foldB]; omega
            exact ⟨⟨i + 1, _, by go_num, HLT.out, HR, ⟨by rw [HT.out, filt_keep _ _ _ _ _ HKp.out, hfo, ← HX.out]⟩, HB⟩, by simp [intOf]; omega⟩
          · have hxz : decide (s[i].toNat ≤ 122) = false := decide_eq_false hz
            go_wp2_with (first
                | (go_at_call 63; refine Calls.mono (classes_calls _) ?_; rintro e w' ⟨rfl, hb⟩; replace HR := Aside0.mk (Kd.R_below HR.out hb); replace HB := Aside0.mk (below_step HB.out hb); clear hb)
                | (at_builtin; refine Kd.R_append (Kd.int .u8) (w0 := w) w.heap.size rfl (.tmp 72) (.tmp 74) 75 5 (.int .u8 0) 1 rfl Tryd.underlying75 infoB rfl (by decide) (by omega) _ xs _ [.int .u8 _] (fun _ => True) (fun _ => False) rfl rfl rfl (fun _ hk => hk.elim) (fun _ _ => trivial) (by (with_reducible repeat (first | apply Kd.R_alloc | apply Kd.R_drewN | apply Kd.R_drew)); exact HR.out) (by repeat (first | (with_reducible first | exact HB.out | apply below_alloc | apply pw_below_drewN | apply below_drew1) | exact HB.out)) (below_size (by repeat (first | (with_reducible first | exact HB.out | apply below_alloc | apply pw_below_drewN | apply below_drew1) | exact HB.out))) (by have := HL.out; omega) ?_; intro v1 w1 ho hb hg hat; replace HR := Aside0.mk ho; replace HB := Aside0.mk hb; clear ho hb hg hat))
            have hfo : foldB true ((s[i].toNat : Nat) : Int) = ((s[i].toNat : Nat) : Int) := by simp [foldB]; omega
            exact ⟨⟨i + 1, _, by go_num, HLT.out, HR, ⟨by rw [HT.out, filt_keep _ _ _ _ _ HKp.out, hfo, ← HX.out]⟩, HB⟩, by simp [intOf]; omega⟩
        · have hxa : decide (97 ≤ s[i].toNat) = false := decide_eq_false ha
          go_wp2_with (first
              | (go_at_call 63; refine Calls.mono (classes_calls _) ?_; rintro e w' ⟨rfl, hb⟩; replace HR := Aside0.mk (Kd.R_below HR.out hb); replace HB := Aside0.mk (below_step HB.out hb); clear hb)
              | (at_builtin; refine Kd.R_append (Kd.int .u8) (w0 := w) w.heap.size rfl (.tmp 72) (.tmp 74) 75 5 (.int .u8 0) 1 rfl Tryd.underlying75 infoB rfl (by decide) (by omega) _ xs _ [.int .u8 _] (fun _ => True) (fun _ => False) rfl rfl rfl (fun _ hk => hk.elim) (fun _ _ => trivial) (by (with_reducible repeat (first | apply Kd.R_alloc | apply Kd.R_drewN | apply Kd.R_drew)); exact HR.out) (by repeat (first | (with_reducible first | exact HB.out | apply below_alloc | apply pw_below_drewN | apply below_drew1) | exact HB.out)) (below_size (by repeat (first | (with_reducible first | exact HB.out | apply below_alloc | apply pw_below_drewN | apply below_drew1) | exact HB.out))) (by have := HL.out; omega) ?_; intro v1 w1 ho hb hg hat; replace HR := Aside0.mk ho; replace HB := Aside0.mk hb; clear ho hb hg hat))
          have hfo : foldB true ((s[i].toNat : Nat) : Int) = ((s[i].toNat : Nat) : Int) := by simp [foldB]; omega
          exact ⟨⟨i + 1, _, by go_num, HLT.out, HR, ⟨by rw [HT.out, filt_keep _ _ _ _ _ HKp.out, hfo, ← HX.out]⟩, HB⟩, by simp [intOf]; omega⟩
    · have hd : decide (i < s.size) = false := decide_eq_false hlt
      have hge : i = s.size := by omega
      subst hge
      have hcv := own_string (P := Tryd.prog) Tryd.underlying75 Tryd.underlying5 Tryd.underlying9 (Kd.own_of_R HR.out)
      go_wp2
      go_ret
      exact ⟨by unfold filtS; rw [HX.out, List.take_of_length_le (by rw [nums_length]; exact Nat.le_refl _)]; rfl, by repeat (first | (with_reducible first | exact HB.out | apply below_alloc | apply pw_below_drewN | apply below_drew1) | exact HB.out)⟩
set_option maxHeartbeats 4000000 in
set_option maxRecDepth 100000 in
theorem filter_010 (s : ByteArray) (hs : s.size ≤ 1048576) (k4 : Int) (p : Addr) (w : World) (x4 : w.cell? ⟨p.block, p.off + 4, none⟩ = some (.int .u16 k4)) (hd : (bits .and .u16 k4 2 != 0) = false) (hi : (bits .and .u16 k4 8 != 0) = true) (hf : (bits .and .u16 k4 4 != 0) = false) :
    Calls Tryd.prog 39 #[.pointer (some p), .string s] w fun e w' => e = .returned (.string (filtS false true false s)) ∧ Below w.heap.size w w' := by
  have hu := Tryd.underlying33
  have hu2 := Tryd.underlying71
  obtain ⟨M, hM, hmk⟩ := make_bytes s.size hs
  have HR0 := Aside0.mk (made_R w M s.size hM hs)
  have HB0 : Aside0 (Below w.heap.size w (w.alloc (.cells M 5))) := ⟨(Below.refl _ _).alloc (Nat.le_refl _) _⟩
  clear hM
  go_enter Tryd.func39, Tryd.ntmps39
  go_wp2
  clear x4 hd hf hi hmk
  go_loopw [7, 45] (fun v7 v45 wr => ∃ (i : Nat) (xs : List Int), v45 = .int .i64 i ∧ i ≤ s.size ∧ Aside0 (Kd.R (Kd.int .u8) 5 wr w.heap.size (fun _ => True) v7 xs) ∧ Aside0 (xs = filtL false true false ((nums s).take i)) ∧ Aside0 (Below w.heap.size w wr)) (fun _ v45 _ => s.size - (intOf v45).toNat)
  case atStart => exact ⟨0, [], rfl, Nat.zero_le _, HR0, ⟨rfl⟩, HB0⟩
  case round =>
    clear HR0 HB0
    obtain ⟨i, xs, rfl, hi, HR, HX, HB⟩ := hrel
    have HL : Aside0 (xs.length ≤ 1048576) := ⟨by rw [HX.out]; have h1 := filt_len false true false ((nums s).take i); rw [List.length_take] at h1; omega⟩
    by_cases hlt : i < s.size
    · have hc : (s[i].toNat) < 256 := s[i].toNat_lt
      have HLT := Aside0.mk hlt
      have HT := Aside0.mk (take_nums s i hlt)
      have hd : decide (i < s.size) = true := decide_eq_true hlt
      obtain ⟨v, hv⟩ : ∃ v, cls ((s[i].toNat : Nat) : Int) = v := ⟨_, rfl⟩
      have hix := run_cls s[i].toNat hc v hv
      have hba := cls_print ⟨s[i].toNat, hc⟩
      simp only [hv] at hba
      clear hv
      cases hkp : keepB false true ((s[i].toNat : Nat) : Int)
      · rw [hkp] at hba
        have HKp := Aside0.mk hkp
        clear hkp
        simp only [Bool.not_false] at hba
        go_wp2_with (first
            | (go_at_call 63; refine Calls.mono (classes_calls _) ?_; rintro e w' ⟨rfl, hb⟩; replace HR := Aside0.mk (Kd.R_below HR.out hb); replace HB := Aside0.mk (below_step HB.out hb); clear hb))
        exact ⟨⟨i + 1, xs, by go_num, HLT.out, HR, ⟨by rw [HT.out, filt_drop _ _ _ _ _ HKp.out, ← HX.out]⟩, HB⟩, by simp [intOf]; omega⟩
      · rw [hkp] at hba
        have HKp := Aside0.mk hkp
        clear hkp
        simp only [Bool.not_true] at hba
        go_wp2_with (first
            | (go_at_call 63; refine Calls.mono (classes_calls _) ?_; rintro e w' ⟨rfl, hb⟩; replace HR := Aside0.mk (Kd.R_below HR.out hb); replace HB := Aside0.mk (below_step HB.out hb); clear hb)
            | (at_builtin; refine Kd.R_append (Kd.int .u8) (w0 := w) w.heap.size rfl (.tmp 72) (.tmp 74) 75 5 (.int .u8 0) 1 rfl Tryd.underlying75 infoB rfl (by decide) (by omega) _ xs _ [.int .u8 _] (fun _ => True) (fun _ => False) rfl rfl rfl (fun _ hk => hk.elim) (fun _ _ => trivial) (by (with_reducible repeat (first | apply Kd.R_alloc | apply Kd.R_drewN | apply Kd.R_drew)); exact HR.out) (by repeat (first | (with_reducible first | exact HB.out | apply below_alloc | apply pw_below_drewN | apply below_drew1) | exact HB.out)) (below_size (by repeat (first | (with_reducible first | exact HB.out | apply below_alloc | apply pw_below_drewN | apply below_drew1) | exact HB.out))) (by have := HL.out; omega) ?_; intro v1 w1 ho hb hg hat; replace HR := Aside0.mk ho; replace HB := Aside0.mk hb; clear ho hb hg hat))
        have hfo : foldB false ((s[i].toNat : Nat) : Int) = ((s[i].toNat : Nat) : Int) := by simp [foldB]
        exact ⟨⟨i + 1, _, by go_num, HLT.out, HR, ⟨by rw [HT.out, filt_keep _ _ _ _ _ HKp.out, hfo, ← HX.out]⟩, HB⟩, by simp [intOf]; omega⟩
    · have hd : decide (i < s.size) = false := decide_eq_false hlt
      have hge : i = s.size := by omega
      subst hge
      have hcv := own_string (P := Tryd.prog) Tryd.underlying75 Tryd.underlying5 Tryd.underlying9 (Kd.own_of_R HR.out)
      go_wp2
      go_ret
      exact ⟨by unfold filtS; rw [HX.out, List.take_of_length_le (by rw [nums_length]; exact Nat.le_refl _)]; rfl, by repeat (first | (with_reducible first | exact HB.out | apply below_alloc | apply pw_below_drewN | apply below_drew1) | exact HB.out)⟩
set_option maxHeartbeats 4000000 in
set_option maxRecDepth 100000 in
theorem filter_011 (s : ByteArray) (hs : s.size ≤ 1048576) (k4 : Int) (p : Addr) (w : World) (x4 : w.cell? ⟨p.block, p.off + 4, none⟩ = some (.int .u16 k4)) (hd : (bits .and .u16 k4 2 != 0) = false) (hi : (bits .and .u16 k4 8 != 0) = true) (hf : (bits .and .u16 k4 4 != 0) = true) :
    Calls Tryd.prog 39 #[.pointer (some p), .string s] w fun e w' => e = .returned (.string (filtS false true true s)) ∧ Below w.heap.size w w' := by
  have hu := Tryd.underlying33
  have hu2 := Tryd.underlying71
  obtain ⟨M, hM, hmk⟩ := make_bytes s.size hs
  have HR0 := Aside0.mk (made_R w M s.size hM hs)
  have HB0 : Aside0 (Below w.heap.size w (w.alloc (.cells M 5))) := ⟨(Below.refl _ _).alloc (Nat.le_refl _) _⟩
  clear hM
  go_enter Tryd.func39, Tryd.ntmps39
  go_wp2
  clear x4 hd hf hi hmk
  go_loopw [7, 45] (fun v7 v45 wr => ∃ (i : Nat) (xs : List Int), v45 = .int .i64 i ∧ i ≤ s.size ∧ Aside0 (Kd.R (Kd.int .u8) 5 wr w.heap.size (fun _ => True) v7 xs) ∧ Aside0 (xs = filtL false true true ((nums s).take i)) ∧ Aside0 (Below w.heap.size w wr)) (fun _ v45 _ => s.size - (intOf v45).toNat)
  case atStart => exact ⟨0, [], rfl, Nat.zero_le _, HR0, ⟨rfl⟩, HB0⟩
  case round =>
    clear HR0 HB0
    obtain ⟨i, xs, rfl, hi, HR, HX, HB⟩ := hrel
    have HL : Aside0 (xs.length ≤ 1048576) := ⟨by rw [HX.out]; have h1 := filt_len false true true ((nums s).take i); rw [List.length_take] at h1; omega⟩
    by_cases hlt : i < s.size
    · have hc : (s[i].toNat) < 256 := s[i].toNat_lt
      have HLT := Aside0.mk hlt
      have HT := Aside0.mk (take_nums s i hlt)
      have hd : decide (i < s.size) = true := decide_eq_true hlt
      obtain ⟨v, hv⟩ : ∃ v, cls ((s[i].toNat : Nat) : Int) = v := ⟨_, rfl⟩
      have hix := run_cls s[i].toNat hc v hv
      have hba := cls_print ⟨s[i].toNat, hc⟩
      simp only [hv] at hba
      clear hv
      cases hkp : keepB false true ((s[i].toNat : Nat) : Int)
      · rw [hkp] at hba
        have HKp := Aside0.mk hkp
        clear hkp
        simp only [Bool.not_false] at hba
        go_wp2_with (first
            | (go_at_call 63; refine Calls.mono (classes_calls _) ?_; rintro e w' ⟨rfl, hb⟩; replace HR := Aside0.mk (Kd.R_below HR.out hb); replace HB := Aside0.mk (below_step HB.out hb); clear hb))
        exact ⟨⟨i + 1, xs, by go_num, HLT.out, HR, ⟨by rw [HT.out, filt_drop _ _ _ _ _ HKp.out, ← HX.out]⟩, HB⟩, by simp [intOf]; omega⟩
      · rw [hkp] at hba
        have HKp := Aside0.mk hkp
        clear hkp
        simp only [Bool.not_true] at hba
        by_cases ha : 97 ≤ s[i].toNat
        · have hxa : decide (97 ≤ s[i].toNat) = true := decide_eq_true ha
          by_cases hz : s[i].toNat ≤ 122
          · have hxz : decide (s[i].toNat ≤ 122) = true := decide_eq_true hz
            go_wp2_with (first
                | (go_at_call 63; refine Calls.mono (classes_calls _) ?_; rintro e w' ⟨rfl, hb⟩; replace HR := Aside0.mk (Kd.R_below HR.out hb); replace HB := Aside0.mk (below_step HB.out hb); clear hb)
                | (at_builtin; refine Kd.R_append (Kd.int .u8) (w0 := w) w.heap.size rfl (.tmp 72) (.tmp 74) 75 5 (.int .u8 0) 1 rfl Tryd.underlying75 infoB rfl (by decide) (by omega) _ xs _ [.int .u8 _] (fun _ => True) (fun _ => False) rfl rfl rfl (fun _ hk => hk.elim) (fun _ _ => trivial) (by (with_reducible repeat (first | apply Kd.R_alloc | apply Kd.R_drewN | apply Kd.R_drew)); exact HR.out) (by repeat (first | (with_reducible first | exact HB.out | apply below_alloc | apply pw_below_drewN | apply below_drew1) | exact HB.out)) (below_size (by repeat (first | (with_reducible first | exact HB.out | apply below_alloc | apply pw_below_drewN | apply below_drew1) | exact HB.out))) (by have := HL.out; omega) ?_; intro v1 w1 ho hb hg hat; replace HR := Aside0.mk ho; replace HB := Aside0.mk hb; clear ho hb hg hat))
            have hfo : foldB true ((s[i].toNat : Nat) : Int) = ((s[i].toNat : Nat) : Int) - 32 := by simp [foldB]; omega
            exact ⟨⟨i + 1, _, by go_num, HLT.out, HR, ⟨by rw [HT.out, filt_keep _ _ _ _ _ HKp.out, hfo, ← HX.out]⟩, HB⟩, by simp [intOf]; omega⟩
          · have hxz : decide (s[i].toNat ≤ 122) = false := decide_eq_false hz
            go_wp2_with (first
                | (go_at_call 63; refine Calls.mono (classes_calls _) ?_; rintro e w' ⟨rfl, hb⟩; replace HR := Aside0.mk (Kd.R_below HR.out hb); replace HB := Aside0.mk (below_step HB.out hb); clear hb)
                | (at_builtin; refine Kd.R_append (Kd.int .u8) (w0 := w) w.heap.size rfl (.tmp 72) (.tmp 74) 75 5 (.int .u8 0) 1 rfl Tryd.underlying75 infoB rfl (by decide) (by omega) _ xs _ [.int .u8 _] (fun _ => True) (fun _ => False) rfl rfl rfl (fun _ hk => hk.elim) (fun _ _ => trivial) (by (with_reducible repeat (first | apply Kd.R_alloc | apply Kd.R_drewN | apply Kd.R_drew)); exact HR.out) (by repeat (first | (with_reducible first | exact HB.out | apply below_alloc | apply pw_below_drewN | apply below_drew1) | exact HB.out)) (below_size (by repeat (first | (with_reducible first | exact HB.out | apply below_alloc | apply pw_below_drewN | apply below_drew1) | exact HB.out))) (by have := HL.out; omega) ?_; intro v1 w1 ho hb hg hat; replace HR := Aside0.mk ho; replace HB := Aside0.mk hb; clear ho hb hg hat))
            have hfo : foldB true ((s[i].toNat : Nat) : Int) = ((s[i].toNat : Nat) : Int) := by simp [foldB]; omega
            exact ⟨⟨i + 1, _, by go_num, HLT.out, HR, ⟨by rw [HT.out, filt_keep _ _ _ _ _ HKp.out, hfo, ← HX.out]⟩, HB⟩, by simp [intOf]; omega⟩
        · have hxa : decide (97 ≤ s[i].toNat) = false := decide_eq_false ha
          go_wp2_with (first
              | (go_at_call 63; refine Calls.mono (classes_calls _) ?_; rintro e w' ⟨rfl, hb⟩; replace HR := Aside0.mk (Kd.R_below HR.out hb); replace HB := Aside0.mk (below_step HB.out hb); clear hb)
              | (at_builtin; refine Kd.R_append (Kd.int .u8) (w0 := w) w.heap.size rfl (.tmp 72) (.tmp 74) 75 5 (.int .u8 0) 1 rfl Tryd.underlying75 infoB rfl (by decide) (by omega) _ xs _ [.int .u8 _] (fun _ => True) (fun _ => False) rfl rfl rfl (fun _ hk => hk.elim) (fun _ _ => trivial) (by (with_reducible repeat (first | apply Kd.R_alloc | apply Kd.R_drewN | apply Kd.R_drew)); exact HR.out) (by repeat (first | (with_reducible first | exact HB.out | apply below_alloc | apply pw_below_drewN | apply below_drew1) | exact HB.out)) (below_size (by repeat (first | (with_reducible first | exact HB.out | apply below_alloc | apply pw_below_drewN | apply below_drew1) | exact HB.out))) (by have := HL.out; omega) ?_; intro v1 w1 ho hb hg hat; replace HR := Aside0.mk ho; replace HB := Aside0.mk hb; clear ho hb hg hat))
          have hfo : foldB true ((s[i].toNat : Nat) : Int) = ((s[i].toNat : Nat) : Int) := by simp [foldB]; omega
          exact ⟨⟨i + 1, _, by go_num, HLT.out, HR, ⟨by rw [HT.out, filt_keep _ _ _ _ _ HKp.out, hfo, ← HX.out]⟩, HB⟩, by simp [intOf]; omega⟩
    · have hd : decide (i < s.size) = false := decide_eq_false hlt
      have hge : i = s.size := by omega
      subst hge
      have hcv := own_string (P := Tryd.prog) Tryd.underlying75 Tryd.underlying5 Tryd.underlying9 (Kd.own_of_R HR.out)
      go_wp2
      go_ret
      exact ⟨by unfold filtS; rw [HX.out, List.take_of_length_le (by rw [nums_length]; exact Nat.le_refl _)]; rfl, by repeat (first | (with_reducible first | exact HB.out | apply below_alloc | apply pw_below_drewN | apply below_drew1) | exact HB.out)⟩
set_option maxHeartbeats 4000000 in
set_option maxRecDepth 100000 in
theorem filter_001 (s : ByteArray) (hs : s.size ≤ 1048576) (k4 : Int) (p : Addr) (w : World) (x4 : w.cell? ⟨p.block, p.off + 4, none⟩ = some (.int .u16 k4)) (hd : (bits .and .u16 k4 2 != 0) = false) (hi : (bits .and .u16 k4 8 != 0) = false) (hf : (bits .and .u16 k4 4 != 0) = true) :
    Calls Tryd.prog 39 #[.pointer (some p), .string s] w fun e w' => e = .returned (.string (filtS false false true s)) ∧ Below w.heap.size w w' := by
  have hu := Tryd.underlying33
  have hu2 := Tryd.underlying71
  obtain ⟨M, hM, hmk⟩ := make_bytes s.size hs
  have HR0 := Aside0.mk (made_R w M s.size hM hs)
  have HB0 : Aside0 (Below w.heap.size w (w.alloc (.cells M 5))) := ⟨(Below.refl _ _).alloc (Nat.le_refl _) _⟩
  clear hM
  go_enter Tryd.func39, Tryd.ntmps39
  go_wp2
  clear x4 hd hf hi hmk
  go_loopw [7, 45] (fun v7 v45 wr => ∃ (i : Nat) (xs : List Int), v45 = .int .i64 i ∧ i ≤ s.size ∧ Aside0 (Kd.R (Kd.int .u8) 5 wr w.heap.size (fun _ => True) v7 xs) ∧ Aside0 (xs = filtL false false true ((nums s).take i)) ∧ Aside0 (Below w.heap.size w wr)) (fun _ v45 _ => s.size - (intOf v45).toNat)
  case atStart => exact ⟨0, [], rfl, Nat.zero_le _, HR0, ⟨rfl⟩, HB0⟩
  case round =>
    clear HR0 HB0
    obtain ⟨i, xs, rfl, hi, HR, HX, HB⟩ := hrel
    have HL : Aside0 (xs.length ≤ 1048576) := ⟨by rw [HX.out]; have h1 := filt_len false false true ((nums s).take i); rw [List.length_take] at h1; omega⟩
    by_cases hlt : i < s.size
    · have hc : (s[i].toNat) < 256 := s[i].toNat_lt
      have HLT := Aside0.mk hlt
      have HT := Aside0.mk (take_nums s i hlt)
      have hd : decide (i < s.size) = true := decide_eq_true hlt
      have HKp : Aside0 (keepB false false ((s[i].toNat : Nat) : Int) = true) := ⟨rfl⟩
      by_cases ha : 97 ≤ s[i].toNat
      · have hxa : decide (97 ≤ s[i].toNat) = true := decide_eq_true ha
        by_cases hz : s[i].toNat ≤ 122
        · have hxz : decide (s[i].toNat ≤ 122) = true := decide_eq_true hz
          go_wp2_with (first
              | (at_builtin; refine Kd.R_append (Kd.int .u8) (w0 := w) w.heap.size rfl (.tmp 72) (.tmp 74) 75 5 (.int .u8 0) 1 rfl Tryd.underlying75 infoB rfl (by decide) (by omega) _ xs _ [.int .u8 _] (fun _ => True) (fun _ => False) rfl rfl rfl (fun _ hk => hk.elim) (fun _ _ => trivial) (by (with_reducible repeat (first | apply Kd.R_alloc | apply Kd.R_drewN | apply Kd.R_drew)); exact HR.out) (by repeat (first | (with_reducible first | exact HB.out | apply below_alloc | apply pw_below_drewN | apply below_drew1) | exact HB.out)) (below_size (by repeat (first | (with_reducible first | exact HB.out | apply below_alloc | apply pw_below_drewN | apply below_drew1) | exact HB.out))) (by have := HL.out; omega) ?_; intro v1 w1 ho hb hg hat; replace HR := Aside0.mk ho; replace HB := Aside0.mk hb; clear ho hb hg hat))
          have hfo : foldB true ((s[i].toNat : Nat) : Int) = ((s[i].toNat : Nat) : Int) - 32 := by simp [foldB]; omega
          exact ⟨⟨i + 1, _, by go_num, HLT.out, HR, ⟨by rw [HT.out, filt_keep _ _ _ _ _ HKp.out, hfo, ← HX.out]⟩, HB⟩, by simp [intOf]; omega⟩
        · have hxz : decide (s[i].toNat ≤ 122) = false := decide_eq_false hz
          go_wp2_with (first
              | (at_builtin; refine Kd.R_append (Kd.int .u8) (w0 := w) w.heap.size rfl (.tmp 72) (.tmp 74) 75 5 (.int .u8 0) 1 rfl Tryd.underlying75 infoB rfl (by decide) (by omega) _ xs _ [.int .u8 _] (fun _ => True) (fun _ => False) rfl rfl rfl (fun _ hk => hk.elim) (fun _ _ => trivial) (by (with_reducible repeat (first | apply Kd.R_alloc | apply Kd.R_drewN | apply Kd.R_drew)); exact HR.out) (by repeat (first | (with_reducible first | exact HB.out | apply below_alloc | apply pw_below_drewN | apply below_drew1) | exact HB.out)) (below_size (by repeat (first | (with_reducible first | exact HB.out | apply below_alloc | apply pw_below_drewN | apply below_drew1) | exact HB.out))) (by have := HL.out; omega) ?_; intro v1 w1 ho hb hg hat; replace HR := Aside0.mk ho; replace HB := Aside0.mk hb; clear ho hb hg hat))
          have hfo : foldB true ((s[i].toNat : Nat) : Int) = ((s[i].toNat : Nat) : Int) := by simp [foldB]; omega
          exact ⟨⟨i + 1, _, by go_num, HLT.out, HR, ⟨by rw [HT.out, filt_keep _ _ _ _ _ HKp.out, hfo, ← HX.out]⟩, HB⟩, by simp [intOf]; omega⟩
      · have hxa : decide (97 ≤ s[i].toNat) = false := decide_eq_false ha
        go_wp2_with (first
            | (at_builtin; refine Kd.R_append (Kd.int .u8) (w0 := w) w.heap.size rfl (.tmp 72) (.tmp 74) 75 5 (.int .u8 0) 1 rfl Tryd.underlying75 infoB rfl (by decide) (by omega) _ xs _ [.int .u8 _] (fun _ => True) (fun _ => False) rfl rfl rfl (fun _ hk => hk.elim) (fun _ _ => trivial) (by (with_reducible repeat (first | apply Kd.R_alloc | apply Kd.R_drewN | apply Kd.R_drew)); exact HR.out) (by repeat (first | (with_reducible first | exact HB.out | apply below_alloc | apply pw_below_drewN | apply below_drew1) | exact HB.out)) (below_size (by repeat (first | (with_reducible first | exact HB.out | apply below_alloc | apply pw_below_drewN | apply below_drew1) | exact HB.out))) (by have := HL.out; omega) ?_; intro v1 w1 ho hb hg hat; replace HR := Aside0.mk ho; replace HB := Aside0.mk hb; clear ho hb hg hat))
        have hfo : foldB true ((s[i].toNat : Nat) : Int) = ((s[i].toNat : Nat) : Int) := by simp [foldB]; omega
        exact ⟨⟨i + 1, _, by go_num, HLT.out, HR, ⟨by rw [HT.out, filt_keep _ _ _ _ _ HKp.out, hfo, ← HX.out]⟩, HB⟩, by simp [intOf]; omega⟩
    · have hd : decide (i < s.size) = false := decide_eq_false hlt
      have hge : i = s.size := by omega
      subst hge
      have hcv := own_string (P := Tryd.prog) Tryd.underlying75 Tryd.underlying5 Tryd.underlying9 (Kd.own_of_R HR.out)
      go_wp2
      go_ret
      exact ⟨by unfold filtS; rw [HX.out, List.take_of_length_le (by rw [nums_length]; exact Nat.le_refl _)]; rfl, by repeat (first | (with_reducible first | exact HB.out | apply below_alloc | apply pw_below_drewN | apply below_drew1) | exact HB.out)⟩
/-- What of a text a key with these modifiers compares. -/
def filtK (m : Int) (s : ByteArray) : ByteArray := filtS (bits .and .u16 m 2 != 0) (!(bits .and .u16 m 2 != 0) && (bits .and .u16 m 8 != 0)) (bits .and .u16 m 4 != 0) s
theorem filter_calls (s : ByteArray) (hs : s.size ≤ 1048576) (k : Ky) (p : Addr) (w : World) (h : KeyAt w p k) :
    Calls Tryd.prog 39 #[.pointer (some p), .string s] w fun e w' => e = .returned (.string (filtK k.f4 s)) ∧ Below w.heap.size w w' := by
  unfold filtK
  cases hd : (bits .and .u16 k.f4 2 != 0)
  · cases hi : (bits .and .u16 k.f4 8 != 0) <;> cases hf : (bits .and .u16 k.f4 4 != 0)
    · exact filter_000 s hs k.f4 p w h.c4 hd hi hf
    · exact filter_001 s hs k.f4 p w h.c4 hd hi hf
    · exact filter_010 s hs k.f4 p w h.c4 hd hi hf
    · exact filter_011 s hs k.f4 p w h.c4 hd hi hf
  · cases hf : (bits .and .u16 k.f4 4 != 0)
    · exact filter_1x0 s hs k.f4 p w h.c4 hd hf
    · exact filter_1x1 s hs k.f4 p w h.c4 hd hf
end Go.Proofs.YtnnoegjgaelafaaDoor.Pr
namespace Go.Proofs.YtnnoegjgaelafaaDoor.Pr
open Go.RowKit Go.Proofs.YtnnoegjgaelafaaDoorW.PrintWords Go.Proofs.YtnnoegjgaelafaaDoorW.PrintLast
set_option linter.unusedVariables false
set_option linter.unusedSimpArgs false

theorem clone_str (s : ByteArray) (hs : s.size ≤ 281474976710656) (w : World) : Calls Tryd.prog 38 #[.string s] w fun e w' => e = .returned (.string s) ∧ Below w.heap.size w w' := by
  have HC := Aside0.mk (fun W => Tryd.stringslite_Clone s W hs)
  go_enter Tryd.func38, Tryd.ntmps38
  go_wp2_with (first
    | (go_at_call 62; refine Calls.mono (HC.out _) ?_; rintro e w1 ⟨rfl, hb1⟩; have HB := Aside0.mk hb1; clear hb1))
  go_ret
  exact ⟨rfl, HB.out⟩
/-- What of a line is compared as a text key. -/
def textI (s : ByteArray) (t : Int) (k : Ky) : ByteArray := s.extract (spanI s t k).1.toNat (spanI s t k).2.toNat
theorem filtL_len (d i f : Bool) (s : ByteArray) : (filtS d i f s).size ≤ s.size := by
  unfold filtS; rw [strOfNums_size]; exact Nat.le_trans (filt_len _ _ _ _) (Nat.le_of_eq (nums_length s))
theorem text_len (s : ByteArray) (t : Int) (k : Ky) : (textI s t k).size ≤ s.size := by
  unfold textI; rw [ByteArray.size_extract]; omega
set_option maxHeartbeats 4000000 in
set_option maxRecDepth 100000 in
theorem ofilt_in (s : ByteArray) (hs : s.size ≤ 1048576) (K : List Ky) (hK : ∀ k ∈ K, Fit k) (t : Int) (h1 : -1 ≤ t) (h2 : t ≤ 255) (g : Nat) (last turned : Bool) (w : World) (ho : OrdW w g K t last turned) (i : Nat) (hi : i < K.length) (hkl : K.length ≤ 16) :
    Calls Tryd.prog 21 #[.pointer (some ⟨g, 0, none⟩), .string s, .int .i64 i] w fun e w' => e = .returned (.string (filtK (K.getD i zKy).f4 (textI s t (K.getD i zKy)))) ∧ Below w.heap.size w w' := by
  have hu := Tryd.underlying69
  have hu2 := Tryd.underlying71
  have hu3 := Tryd.underlying37
  have hu4 := Tryd.underlying67
  have hinf := infoCol
  have HN := Aside0.mk (fun W hb => count_calls K t g last turned W (ho.below hb))
  obtain ⟨A, c, cols, x0, x1, x2, x3, hlc, hC, hO⟩ := ord_cells ho
  obtain ⟨ad, rfl, hcol⟩ := at_Col hC i hi
  have hk := (hO.at i hi).1
  have hfit : Fit (K.getD i zKy) := hK _ (by rw [List.getD_eq_getElem?_getD, List.getElem?_eq_getElem hi, Option.getD_some]; exact List.getElem_mem hi)
  have HS := Aside0.mk (fun (W : World) (hb : Below w.heap.size w W) => span_calls s hs t h1 h2 (K.getD i zKy) hfit (ad.add (i * 9)) W (by rw [← hk]; exact hcol.key.keep hb))
  have htl := text_len s t (K.getD i zKy)
  have HF := Aside0.mk (fun (W : World) (hb : Below w.heap.size w W) => filter_calls (textI s t (K.getD i zKy)) (by omega) (K.getD i zKy) (ad.add (i * 9)) W (by rw [← hk]; exact hcol.key.keep hb))
  have HCl := Aside0.mk (fun (W : World) => clone_str (filtK (K.getD i zKy).f4 (textI s t (K.getD i zKy))) (by have := filtL_len (bits .and .u16 (K.getD i zKy).f4 2 != 0) (!(bits .and .u16 (K.getD i zKy).f4 2 != 0) && (bits .and .u16 (K.getD i zKy).f4 8 != 0)) (bits .and .u16 (K.getD i zKy).f4 4 != 0) (textI s t (K.getD i zKy)); unfold filtK; omega) W)
  have hsb := span_bounds s t h1 h2 (K.getD i zKy) hfit
  have hi0 : decide ((i : Int) < 0) = false := decide_eq_false (by omega)
  have hi1 : decide ((K.length : Int) ≤ (i : Int)) = false := decide_eq_false (by omega)
  clear ho hC hO x2 x3 hcol hk hfit htl
  unfold textI at HF HCl ⊢
  generalize spanI s t (K.getD i zKy) = r at *
  obtain ⟨r1, r2⟩ := r
  simp only at hsb HF HCl HS ⊢
  obtain ⟨b0, b1, b2⟩ := hsb
  generalize filtK (K.getD i zKy).f4 (s.extract r1.toNat r2.toNat) = res at *
  generalize K.length = n at *
  go_enter Tryd.func21, Tryd.ntmps21
  have HB : Aside0 (Below w.heap.size w w) := ⟨Below.refl _ _⟩
  go_wp2_with (first
    | (go_at_call 14; refine Calls.mono (HN.out _ HB.out) ?_; rintro e w1 ⟨rfl, hb1⟩; replace HB := Aside0.mk (bstep HB.out hb1); clear hb1 HN))
  have hgl : g < w.heap.size := World.block_lt_of_cell? w _ x0
  go_cut [7] (fun v7 wc => ∃ gA : Nat, v7 = .pointer (some ⟨gA, 0, none⟩) ∧ Aside0 (Below w.heap.size w wc) ∧ Aside0 (wc.cell? ⟨gA, 0, none⟩ = some (.int .i64 r1) ∧ wc.cell? ⟨gA, 1, none⟩ = some (.int .i64 r2)))
  case first =>
    have hs1 : w.heap.size ≤ w1.heap.size := HB.out.size
    have y0 : w1.cell? ⟨g, 0, none⟩ = some (.slice (some ad) n c) := (HB.out.cell (p := ⟨g, 0, none⟩) hgl).trans x0
    have y1 : w1.cell? ⟨g, 1, none⟩ = some (.int .i64 t) := (HB.out.cell (p := ⟨g, 1, none⟩) hgl).trans x1
    clear x0 x1
    have HB1d : Aside0 (Below w1.heap.size w1 w1.drew) := ⟨(Below.refl _ _).drew⟩
    have KP := Aside0.mk (fun (w' : World) (hb : Aside0 (Below w1.heap.size w1 w')) => (⟨cell_stays hb.out y0, cell_stays hb.out y1, hb⟩ : w'.cell? ⟨g, 0, none⟩ = some (.slice (some ad) n c) ∧ w'.cell? ⟨g, 1, none⟩ = some (.int .i64 t) ∧ Aside0 (Below w1.heap.size w1 w')))
    go_region_held3 (fun w' => w'.cell? ⟨g, 0, none⟩ = some (.slice (some ad) n c) ∧ w'.cell? ⟨g, 1, none⟩ = some (.int .i64 t) ∧ Aside0 (Below w1.heap.size w1 w'))
      ((refine KP.out _ ?_; first | assumption | exact ⟨below_set (below_set (Aside0.out (by assumption)) (by first | exact Nat.le_refl _ | exact (Aside0.out (p := Below w1.heap.size w1 _) (by assumption)).size)) (by first | exact Nat.le_refl _ | exact (Aside0.out (p := Below w1.heap.size w1 _) (by assumption)).size)⟩ | exact ⟨Below.alloc (Aside0.out (by assumption)) (Aside0.out (p := Below w1.heap.size w1 _) (by assumption)).size _⟩ | exact ⟨((Below.refl _ _).alloc (Nat.le_refl _) _).drew⟩ | exact ⟨((Below.refl _ _).drew).alloc (Nat.le_refl _) _⟩ | exact ⟨((Below.refl _ _).alloc (Nat.le_refl _) _)⟩ | exact aside_drew (by assumption)))
      (first
        | (go_at_call 33; refine Calls.mono (HS.out _ (bstep HB.out (by first | exact Aside0.out (by assumption) | exact ((Below.refl _ _).alloc (Nat.le_refl _) _).drew | exact ((Below.refl _ _).drew).alloc (Nat.le_refl _) _ | exact ((Below.refl _ _).alloc (Nat.le_refl _) _)))) ?_; rintro e w7 ⟨rfl, hb7⟩; have HB7 : Aside0 (Below w1.heap.size w1 w7) := ⟨bstep (by first | exact Aside0.out (by assumption) | exact ((Below.refl _ _).alloc (Nat.le_refl _) _).drew | exact ((Below.refl _ _).drew).alloc (Nat.le_refl _) _ | exact ((Below.refl _ _).alloc (Nat.le_refl _) _)) hb7⟩; have hw17 := HB7.out.size; (try (have hz9 := (hb7.block w1.heap.size (by simp)).trans (by first | exact heap_alloc_new w1 _ | exact heap_alloc_new w1.drew _); have z0 := blk_cell hz9 0; have z1 := blk_cell hz9 1; have f0 := blk_frozen hz9 0; have f1 := blk_frozen hz9 1; simp at z0 z1; clear hz9)); clear hb7))
    all_goals
      go_wp2
      go_meet
      case rel =>
        first
          | exact ⟨_, rfl, ⟨bstep HB.out (HB7.out.alloc HB7.out.size _)⟩, ⟨by go_simp, by go_simp⟩⟩
          | exact ⟨_, rfl, ⟨bstep HB.out (below_set (below_set HB7.out (Nat.le_refl _)) (Nat.le_refl _))⟩, ⟨by go_simp, by go_simp⟩⟩
  case rest =>
    obtain ⟨gA, rfl, HBc, HZ⟩ := hcut
    obtain ⟨a0, a1⟩ := HZ.out
    have y0 : wc.cell? ⟨g, 0, none⟩ = some (.slice (some ad) n c) := (HBc.out.cell (p := ⟨g, 0, none⟩) hgl).trans x0
    clear x0 x1 HZ HB HS
    go_wp2
    have HB1d : Aside0 (Below wc.heap.size wc wc.drew) := ⟨(Below.refl _ _).drew⟩
    have KP := Aside0.mk (fun (w' : World) (hb : Aside0 (Below wc.heap.size wc w')) => (⟨cell_stays hb.out y0, cell_stays hb.out a0, cell_stays hb.out a1, hb⟩ : w'.cell? ⟨g, 0, none⟩ = some (.slice (some ad) n c) ∧ w'.cell? ⟨gA, 0, none⟩ = some (.int .i64 r1) ∧ w'.cell? ⟨gA, 1, none⟩ = some (.int .i64 r2) ∧ Aside0 (Below wc.heap.size wc w')))
    go_region_held3 (fun w' => w'.cell? ⟨g, 0, none⟩ = some (.slice (some ad) n c) ∧ w'.cell? ⟨gA, 0, none⟩ = some (.int .i64 r1) ∧ w'.cell? ⟨gA, 1, none⟩ = some (.int .i64 r2) ∧ Aside0 (Below wc.heap.size wc w'))
      ((refine KP.out _ ?_; first | assumption | exact aside_drew (by assumption)))
      (first
        | (go_at_call 39; refine Calls.mono (HF.out _ (bstep HBc.out (Aside0.out (by assumption)))) ?_; rintro e w7 ⟨rfl, hb7⟩; have HB7 : Aside0 (Below wc.heap.size wc w7) := ⟨bstep HB1d.out hb7⟩; clear hb7)
        | (go_at_call 38; refine Calls.mono (HCl.out _) ?_; rintro e w8 ⟨rfl, hb8⟩; have HB8 : Aside0 (Below wc.heap.size wc w8) := ⟨bstep HB7.out hb8⟩; clear hb8))
    all_goals
      go_wp2
      go_ret
      exact ⟨rfl, bstep HBc.out HB8.out⟩
set_option maxHeartbeats 4000000 in
set_option maxRecDepth 100000 in
theorem ofilt_out (s : ByteArray) (K : List Ky) (t : Int) (g : Nat) (last turned : Bool) (w : World) (ho : OrdW w g K t last turned) (i : Int) (hi : ¬ (0 ≤ i ∧ i < (K.length : Int))) :
    Calls Tryd.prog 21 #[.pointer (some ⟨g, 0, none⟩), .string s, .int .i64 i] w fun e w' => e = .returned (.string ⟨#[]⟩) ∧ Below w.heap.size w w' := by
  have HN := Aside0.mk (fun W hb => count_calls K t g last turned W (ho.below hb))
  clear ho
  generalize K.length = n at *
  have HB : Aside0 (Below w.heap.size w w) := ⟨Below.refl _ _⟩
  by_cases h0 : i < 0
  · have hi0 : decide (i < 0) = true := decide_eq_true h0
    clear h0 hi HN
    go_enter Tryd.func21, Tryd.ntmps21
    go_wp2
    go_ret
    exact ⟨rfl, HB.out⟩
  · have hi0 : decide (i < 0) = false := decide_eq_false h0
    have hi1 : decide ((n : Int) ≤ i) = true := decide_eq_true (by omega)
    clear h0 hi
    go_enter Tryd.func21, Tryd.ntmps21
    go_wp2_with (first
      | (go_at_call 14; refine Calls.mono (HN.out _ HB.out) ?_; rintro e w1 ⟨rfl, hb1⟩; replace HB := Aside0.mk (bstep HB.out hb1); clear hb1 HN))
    go_ret
    exact ⟨rfl, HB.out⟩
/-- What of a line text key number i compares. -/
def filtAt (s : ByteArray) (t : Int) (K : List Ky) (i : Int) : ByteArray := if 0 ≤ i ∧ i < (K.length : Int) then filtK (K.getD i.toNat zKy).f4 (textI s t (K.getD i.toNat zKy)) else ⟨#[]⟩
theorem ofilt_calls (s : ByteArray) (hs : s.size ≤ 1048576) (K : List Ky) (hK : ∀ k ∈ K, Fit k) (t : Int) (h1 : -1 ≤ t) (h2 : t ≤ 255) (g : Nat) (last turned : Bool) (w : World) (ho : OrdW w g K t last turned) (i : Int) (hkl : K.length ≤ 16) :
    Calls Tryd.prog 21 #[.pointer (some ⟨g, 0, none⟩), .string s, .int .i64 i] w fun e w' => e = .returned (.string (filtAt s t K i)) ∧ Below w.heap.size w w' := by
  unfold filtAt
  by_cases hi : 0 ≤ i ∧ i < (K.length : Int)
  · rw [if_pos hi]
    obtain ⟨n, rfl⟩ := Int.eq_ofNat_of_zero_le hi.1
    exact ofilt_in s hs K hK t h1 h2 g last turned w ho n (by omega) hkl
  · rw [if_neg hi]
    exact ofilt_out s K t g last turned w ho i hi
end Go.Proofs.YtnnoegjgaelafaaDoor.Pr
namespace Go.Proofs.YtnnoegjgaelafaaDoor.Pr
open Go.RowKit Go.Proofs.YtnnoegjgaelafaaDoorW.PrintWords Go.Proofs.YtnnoegjgaelafaaDoorW.PrintLast
set_option linter.unusedVariables false
set_option linter.unusedSimpArgs false

theorem has_tab2 : ∀ m : Fin 1024, millref5_has.f (m.val : Int) 2 = some (bits .and .u16 (m.val : Int) 2 != 0) := by decide +kernel
theorem has_tab4 : ∀ m : Fin 1024, millref5_has.f (m.val : Int) 4 = some (bits .and .u16 (m.val : Int) 4 != 0) := by decide +kernel
theorem has_tab8 : ∀ m : Fin 1024, millref5_has.f (m.val : Int) 8 = some (bits .and .u16 (m.val : Int) 8 != 0) := by decide +kernel
theorem counts_like (x : Int) (m m' : Int) (h2 : millref5_has.f m 2 = millref5_has.f m' 2) (h8 : millref5_has.f m 8 = millref5_has.f m' 8) : millref5_counts.f x m = millref5_counts.f x m' := by
  unfold millref5_counts.f; rw [h2, h8]
theorem counts_2 : ∀ x : Fin 256, millref5_counts.f (x.val : Int) 2 = some (keepB true false (x.val : Int)) := by decide +kernel
theorem counts_8 : ∀ x : Fin 256, millref5_counts.f (x.val : Int) 8 = some (keepB false true (x.val : Int)) := by decide +kernel
theorem counts_0 : ∀ x : Fin 256, millref5_counts.f (x.val : Int) 0 = some (keepB false false (x.val : Int)) := by decide +kernel
theorem counts_10 : ∀ x : Fin 256, millref5_counts.f (x.val : Int) 10 = some (keepB true false (x.val : Int)) := by decide +kernel
theorem counts_some (x : Nat) (hx : x < 256) (m : Nat) (hm : m < 1024) : millref5_counts.f (x : Int) (m : Int) = some (keepB (bits .and .u16 (m : Int) 2 != 0) (!(bits .and .u16 (m : Int) 2 != 0) && (bits .and .u16 (m : Int) 8 != 0)) (x : Int)) := by
  have h2 := has_tab2 ⟨m, hm⟩
  have h8 := has_tab8 ⟨m, hm⟩
  simp only at h2 h8
  cases hd : (bits .and .u16 (m : Int) 2 != 0) <;> cases hi : (bits .and .u16 (m : Int) 8 != 0) <;> rw [hd] at h2 <;> rw [hi] at h8
  · rw [counts_like _ _ 0 (h2.trans (by decide +kernel)) (h8.trans (by decide +kernel))]; exact counts_0 ⟨x, hx⟩
  · rw [counts_like _ _ 8 (h2.trans (by decide +kernel)) (h8.trans (by decide +kernel))]; exact counts_8 ⟨x, hx⟩
  · rw [counts_like _ _ 2 (h2.trans (by decide +kernel)) (h8.trans (by decide +kernel))]; exact counts_2 ⟨x, hx⟩
  · rw [counts_like _ _ 10 (h2.trans (by decide +kernel)) (h8.trans (by decide +kernel))]; exact counts_10 ⟨x, hx⟩
theorem nums_extract (s : ByteArray) (a b : Nat) : nums (s.extract a b) = ((nums s).drop a).take (b - a) := by
  unfold nums
  rw [List.map_drop.symm, List.map_take.symm]
  congr 1
  rw [ByteArray.data_extract, Array.toList_extract, List.extract_eq_take_drop]
theorem bt_nat (s : ByteArray) (i : Nat) (h : i < s.size) : bt s (i : Int) = ((s[i].toNat : Nat) : Int) := (bt_at s (i : Int) h).symm
theorem filt_more (d i f : Bool) (a b : List Int) : filtL d i f (a ++ b) = filtL d i f a ++ filtL d i f b := by
  simp [filtL, List.filter_append]
theorem slice_next (s : ByteArray) (i T : Nat) (h : i < T) (hT : T ≤ s.size) : ((nums s).drop i).take (T - i) = ((s[i]'(by omega)).toNat : Int) :: ((nums s).drop (i + 1)).take (T - (i + 1)) := by
  have hi : i < (nums s).length := by rw [nums_length]; omega
  have e := nums_at s i (by omega)
  rw [List.getElem?_eq_getElem hi, Option.some.injEq] at e
  rw [List.drop_eq_getElem_cons hi, e, show T - i = (T - (i + 1)) + 1 by omega, List.take_succ_cons]
theorem ref_filt (s : ByteArray) (hs : s.size ≤ 1048576) (k0 k1 k2 k3 m : Int) (k5 : Bool) (d ii f : Bool) (hc : ∀ x : Nat, x < 256 → millref5_counts.f (x : Int) m = some (keepB d ii (x : Int))) (h4 : millref5_has.f m 4 = some f) (F : Int) (T : Nat) (hT : T ≤ s.size) : ∀ (n i : Nat) (xs : List Int), T - i = n → i ≤ T → xs.length ≤ i →
    Ev (fun k => millref5_Filter.l0 k s xs (i : Int) k0 k1 k2 k3 m k5 F (T : Int)) (strOfNums (xs ++ filtL d ii f (((nums s).drop i).take (T - i))))
  | 0, i, xs, hn, hi, hx => by
    rw [hn, List.take_zero]
    refine Ev.step (f := fun _ => some (strOfNums xs)) (fun k => by rw [millref5_Filter.l0, if_neg (by omega)]) ?_
    have : filtL d ii f [] = [] := rfl
    rw [this, List.append_nil]
    exact Ev.now _
  | n + 1, i, xs, hn, hi, hx => by
    have hlt : i < T := by omega
    have hw : wrap64 ((i : Int) + 1) = ((i + 1 : Nat) : Int) := by rw [wrap64_id (by omega) (by omega)]; rfl
    have hb := bt_nat s i (by omega)
    have hlen : xs.length < 140737488355328 := by omega
    have hxb : (s[i]'(by omega)).toNat < 256 := (s[i]'(by omega)).toNat_lt
    rw [slice_next s i T hlt hT]
    generalize (s[i]'(by omega)).toNat = x at hb hxb ⊢
    have hcx := hc x hxb
    cases hk : keepB d ii (x : Int)
    · have e : filtL d ii f ((x : Int) :: ((nums s).drop (i + 1)).take (T - (i + 1))) = filtL d ii f (((nums s).drop (i + 1)).take (T - (i + 1))) := by simp [filtL, hk]
      rw [e]
      refine Ev.step (f := fun k => millref5_Filter.l0 k s xs ((i + 1 : Nat) : Int) k0 k1 k2 k3 m k5 F (T : Int)) (fun k => by
        rw [millref5_Filter.l0, if_pos (by omega), if_pos (by omega), if_pos (by omega), hb, hcx, Option.bind_some, hk, if_neg (by decide), hw]) ?_
      exact ref_filt s hs k0 k1 k2 k3 m k5 d ii f hc h4 F T hT n (i + 1) xs (by omega) (by omega) (by omega)
    · have e : xs ++ filtL d ii f ((x : Int) :: ((nums s).drop (i + 1)).take (T - (i + 1))) = (xs ++ [foldB f (x : Int)]) ++ filtL d ii f (((nums s).drop (i + 1)).take (T - (i + 1))) := by simp [filtL, hk]
      rw [e]
      refine Ev.step (f := fun k => millref5_Filter.l0 k s (xs ++ [foldB f (x : Int)]) ((i + 1 : Nat) : Int) k0 k1 k2 k3 m k5 F (T : Int)) (fun k => by
        rw [millref5_Filter.l0, if_pos (by omega), if_pos (by omega), if_pos (by omega), hb, hcx, Option.bind_some, hk, if_pos rfl, h4, Option.bind_some, if_pos hlen, if_pos hlen, hw]
        cases f
        · rw [if_neg (by decide)]; rfl
        · rw [if_pos rfl]
          by_cases ha : (x : Int) ≥ 97
          · rw [if_pos ha]
            by_cases hz : (x : Int) ≤ 122
            · rw [if_pos hz]
              have e2 : foldB true (x : Int) = ((x : Int) - 32) % 256 := by unfold foldB; rw [if_pos (by simp; omega)]; omega
              rw [e2]
            · rw [if_neg hz]
              have e2 : foldB true (x : Int) = (x : Int) := by unfold foldB; rw [if_neg (by simp; omega)]
              rw [e2]
          · rw [if_neg ha]
            have e2 : foldB true (x : Int) = (x : Int) := by unfold foldB; rw [if_neg (by simp; omega)]
            rw [e2]) ?_
      exact ref_filt s hs k0 k1 k2 k3 m k5 d ii f hc h4 F T hT n (i + 1) _ (by omega) (by omega) (by rw [List.length_append]; simp; omega)
theorem filter_ref (s : ByteArray) (hs : s.size ≤ 1048576) (t : Int) (h1 : -1 ≤ t) (h2 : t ≤ 255) (k : Ky) (hk : Fit k) (mk : Nat) (hm : k.f4 = (mk : Int)) (hm2 : mk < 1024) :
    Ev (fun n => millref5_Filter.f n s k.f0 k.f1 k.f2 k.f3 k.f4 k.f5 t) (filtK k.f4 (textI s t k)) := by
  have hsb := span_bounds s t h1 h2 k hk
  have hsp := ref_span s hs t h1 h2 k hk mk hm hm2
  have ht : filtK k.f4 (textI s t k) = strOfNums ([] ++ filtL (bits .and .u16 k.f4 2 != 0) (!(bits .and .u16 k.f4 2 != 0) && (bits .and .u16 k.f4 8 != 0)) (bits .and .u16 k.f4 4 != 0) (((nums s).drop (spanI s t k).1.toNat).take ((spanI s t k).2.toNat - (spanI s t k).1.toNat))) := by
    unfold filtK filtS textI
    rw [nums_extract]; rfl
  rw [ht]
  refine Ev.congr (f := fun n => (millref5_Span.f n s k.f0 k.f1 k.f2 k.f3 k.f4 k.f5 t).bind fun bt185 => (millref5_Filter.l0 n s ([] : List Int) bt185.1 k.f0 k.f1 k.f2 k.f3 k.f4 k.f5 bt185.1 bt185.2)) (fun n => by rw [millref5_Filter.f]) ?_
  refine Ev.bind hsp ?_
  generalize spanI s t k = r at *
  obtain ⟨r1, r2⟩ := r
  simp only at hsb ⊢
  obtain ⟨a, ha⟩ := Int.eq_ofNat_of_zero_le hsb.1
  obtain ⟨b, hb⟩ := Int.eq_ofNat_of_zero_le (Int.le_trans hsb.1 hsb.2.1)
  subst ha hb
  simp only [Int.toNat_natCast]
  refine ref_filt s hs k.f0 k.f1 k.f2 k.f3 k.f4 k.f5 _ _ _ (fun x hx => ?_) ?_ (a : Int) b (by omega) (b - a) a [] rfl (by omega) (Nat.zero_le _)
  · rw [hm]; exact counts_some x hx mk hm2
  · rw [hm]; exact has_tab4 ⟨mk, hm2⟩
end Go.Proofs.YtnnoegjgaelafaaDoor.Pr
