/- The law CollateSpans: the walk. -/
import Derived.Test.YtnnoegjgaelafaaDoorCols
import Derived.Test.YtnnoegjgaelafaaDoorNews
namespace Go.Proofs.YtnnoegjgaelafaaDoor.Pr
open Go.RowKit Go.Great Go.Proofs.YtnnoegjgaelafaaDoorW.PrintWords Go.Proofs.YtnnoegjgaelafaaDoorW.PrintLast
set_option linter.unusedVariables false
set_option linter.unusedSimpArgs false

set_option maxHeartbeats 16000000 in
set_option maxRecDepth 100000 in
theorem spans_walk (A0 : Option Addr) (c0 : Nat) (l0 : List Ky) (m t : Int) (st un : Bool) (r : Rest) (s : ByteArray) (hs : s.size ≤ 1048576) (i : Int) (w : World) (hr0 : Kd.C k33 w A0 l0.length l0) (hc0 : l0.length ≤ c0) (hl : l0.length ≤ 1000000) (mn : Nat) (hm : m = (mn : Int)) (hm2 : mn < 65536) (hk : ∀ k ∈ l0, ∃ n : Nat, k.f4 = (n : Int) ∧ n < 65536) :
    Calls Tryd.prog 5 #[.agg (optVal (.slice A0 l0.length c0) m t st un r), .string s, .int .i64 i] w fun e w' => e = .returned (.bool true) ∧ Below w.heap.size w w' := by
  have HU := Aside0.mk Tryd.underlying28
  obtain ⟨cs, hcs⟩ : ∃ cs : Array Value, cs = optVal (.slice A0 l0.length c0) m t st un r := ⟨_, rfl⟩
  have HORD : Aside0 (∀ (W : World), Below w.heap.size w W → Calls Tryd.prog 12 #[.agg cs] W (fun e w' => ∃ cp, e = .returned (.tuple #[.pointer cp, .bool true]) ∧ POrd (chkB l0 m t) (effKeys m (modB m) l0) t (!st && !un) (bits .and .u16 m 512 != 0) cp w' ∧ Below W.heap.size W w')) := ⟨fun W hb => by
    rw [hcs]
    refine (ordd_calls A0 c0 l0 m t st un r W (Kd.C_below hr0 hb) hc0 hl mn hm hm2 hk).mono (fun e w' h => ?_)
    rcases h with ⟨_, rfl, hb⟩ | ⟨hq, g, rfl, ho, _, hb⟩
    · exact ⟨none, rfl, .inl rfl, hb⟩
    · exact ⟨_, rfl, .inr ⟨g, rfl, hq, ho⟩, hb⟩⟩
  have HCS2 : Aside0 (cs[2]? = some (.int .i64 t)) := ⟨by rw [hcs]; rfl⟩
  have HSZ : Aside0 ((Tryd.prog.info? 28).map (·.size) = some cs.size) := ⟨by rw [hcs]; exact opt_size A0 l0.length c0 m t st un r⟩
  have HEFF : Aside0 (mn < 1024 → ∀ W, Below w.heap.size w W → Calls Tryd.prog 13 #[.agg cs] W fun e w' => ∃ v0 : Value, e = .returned v0 ∧ Kd.R k33 33 w' W.heap.size (fun _ => True) v0 (effKeys m (modB m) l0) ∧ Below W.heap.size W w') := ⟨fun h W hb => by
    rw [hcs]; exact reff_calls A0 c0 l0 m t st un r W (Kd.C_below hr0 hb) hc0 hl mn hm h⟩
  rw [← hcs]
  clear hr0 hcs
  go_enter Tryd.func5, Tryd.ntmps5
  go_upto_region 2 with (first
    | (refine box_event rfl (N := 3) rfl (cs := cs) (t := 28) (box_opts _ _ _ rfl _ rfl _) ?_; intro g0 hg0 W0 hz0 hb0; have HZ0 := Aside0.mk hz0; have HB := Aside0.mk hb0; clear hz0 hb0 hg0)
    | (refine wpList_load_row rfl 28 _ rfl g0 rfl 28 cs (0, 0) _ HZ0.out HU.out rfl HSZ.out ?_)
    | (go_at_call 12; refine Calls.mono (HORD.out _ HB.out) ?_; rintro e w2 ⟨cp, rfl, hpo, hb2⟩; replace HZ0 := Aside0.mk ((hb2.block _ (blk_lt HZ0.out)).trans HZ0.out); replace HB := Aside0.mk (bstep HB.out hb2); have HPO := Aside0.mk hpo; clear hpo hb2 HORD))
  rcases HPO.out with rfl | ⟨g, rfl, hq, ho⟩
  · go_wp2
    go_ret
    exact ⟨rfl, HB.out⟩
  have HO := Aside0.mk ho
  clear ho HPO
  obtain ⟨q1, q2, q3, q4, q5⟩ := chk_facts hq
  have q6 : mn < 1024 := by omega
  have hfit := eff_fit (m := m) (b := modB m) (fun k hk => fit_of_right k (q5 k hk))
  have hsml := eff_small hm q6 (fun k hk1 => by
    obtain ⟨n, e1, e2⟩ := hk k hk1
    exact ⟨n, e1, right_small k n e1 e2 (q5 k hk1)⟩)
  have hlen := eff_len m (modB m) l0
  have HEFF := Aside0.mk (HEFF.out q6)
  clear hq q5 hk q6
  generalize effKeys m (modB m) l0 = K at *
  have hK1 : 0 < K.length := by omega
  have hK2 : K.length ≤ 16 := by omega
  clear hlen q1 q4
  have HSP := Aside0.mk (fun W ho x => ospan_calls s hs K hfit t q2 q3 g (!st && !un) (bits .and .u16 m 512 != 0) W ho x hK2)
  have HFI := Aside0.mk (fun W ho x => ofilt_calls s hs K hfit t q2 q3 g (!st && !un) (bits .and .u16 m 512 != 0) W ho x hK2)
  have HRS : Aside0 (∀ j : Nat, j < K.length → ∀ W, Calls Tryd.prog 16 #[.string s, .agg #[.int .i64 (K.getD j zKy).f0, .int .i64 (K.getD j zKy).f1, .int .i64 (K.getD j zKy).f2, .int .i64 (K.getD j zKy).f3, .int .u16 (K.getD j zKy).f4, .bool (K.getD j zKy).f5], .int .i64 t] W fun e w' => e = .returned (.agg #[.int .i64 (spanI s t (K.getD j zKy)).1, .int .i64 (spanI s t (K.getD j zKy)).2]) ∧ Below W.heap.size W w') := ⟨fun j hj W => by
    have hmem : K.getD j zKy ∈ K := by rw [List.getD_eq_getElem?_getD, List.getElem?_eq_getElem hj, Option.getD_some]; exact List.getElem_mem hj
    obtain ⟨mk, hmk, hmk2⟩ := hsml _ hmem
    obtain ⟨kk, hkk⟩ := ref_span s hs t q2 q3 (K.getD j zKy) (hfit _ hmem) mk hmk hmk2
    exact millref5_Span.calls kk s _ _ _ _ _ _ t (spanI s t (K.getD j zKy)).1 (spanI s t (K.getD j zKy)).2 W (hkk kk (Nat.le_refl _))⟩
  have HRF : Aside0 (∀ j : Nat, j < K.length → ∀ W, Calls Tryd.prog 22 #[.string s, .agg #[.int .i64 (K.getD j zKy).f0, .int .i64 (K.getD j zKy).f1, .int .i64 (K.getD j zKy).f2, .int .i64 (K.getD j zKy).f3, .int .u16 (K.getD j zKy).f4, .bool (K.getD j zKy).f5], .int .i64 t] W fun e w' => e = .returned (.string (filtK (K.getD j zKy).f4 (textI s t (K.getD j zKy)))) ∧ Below W.heap.size W w') := ⟨fun j hj W => by
    have hmem : K.getD j zKy ∈ K := by rw [List.getD_eq_getElem?_getD, List.getElem?_eq_getElem hj, Option.getD_some]; exact List.getElem_mem hj
    obtain ⟨mk, hmk, hmk2⟩ := hsml _ hmem
    obtain ⟨kk, hkk⟩ := filter_ref s hs t q2 q3 (K.getD j zKy) (hfit _ hmem) mk hmk hmk2
    exact millref5_Filter.calls kk s _ _ _ _ _ _ t _ W (hkk kk (Nat.le_refl _))⟩
  clear hfit hsml q2 q3
  have HK1 := Aside0.mk hK1
  have HK2 := Aside0.mk hK2
  clear hK1 hK2
  go_upto_region 5 with (first
    | (refine wpList_load_row rfl 28 _ rfl g0 rfl 28 cs (0, 0) _ HZ0.out HU.out rfl HSZ.out ?_)
    | (go_at_call 13; refine Calls.mono (HEFF.out _ HB.out) ?_; rintro e w4 ⟨v9, rfl, hR9, hb4⟩; obtain ⟨g9, cap9, rfl, hg9, _, _⟩ := Kd.R_form hR9 HK1.out; have HR9 := Aside0.mk hR9; replace HB := Aside0.mk (bstep HB.out hb4); replace HZ0 := Aside0.mk ((hb4.block _ (blk_lt HZ0.out)).trans HZ0.out); replace HO := Aside0.mk (HO.out.below hb4); clear hR9 hb4 hg9 HEFF))
  have HKC := Aside0.mk (Kd.R_reads' HR9.out).2.2
  have HT := Aside0.mk ((blk_cell HZ0.out 2).trans HCS2.out)
  clear HR9 HZ0
  have HW : Aside0 (Below w4.heap.size w4 w4) := ⟨Below.refl _ _⟩
  go_wp2
  go_loopw [10] (fun v wr => ∃ x : Int, v = .int .i64 x ∧ -1 ≤ x ∧ x ≤ K.length + 1 ∧ Aside0 (Below w4.heap.size w4 wr)) (fun v _ => ((K.length : Int) + 2 - intOf v).toNat)
  case atStart => exact ⟨-1, rfl, by omega, by omega, HW⟩
  case round =>
    clear HW
    obtain ⟨x, rfl, hx0, hx1, HW⟩ := hrel
    by_cases hle : x ≤ (K.length : Int)
    · have hd : decide (x ≤ (K.length : Int)) = true := decide_eq_true hle
      have hu2 := Tryd.underlying33
      have hu3 := Tryd.underlying37
      by_cases hin : 0 ≤ x ∧ x < (K.length : Int)
      · obtain ⟨j, rfl⟩ := Int.eq_ofNat_of_zero_le hin.1
        have hj : j < K.length := by omega
        have HSx : Aside0 (∀ W, Below w4.heap.size w4 W → Calls Tryd.prog 15 #[.pointer (some ⟨g, 0, none⟩), .string s, .int .i64 (j : Int)] W fun e w' => e = .returned (.agg #[.int .i64 (spanI s t (K.getD j zKy)).1, .int .i64 (spanI s t (K.getD j zKy)).2]) ∧ Below W.heap.size W w') := ⟨fun W hb => by
          have h := HSP.out W (HO.out.below hb) (j : Int)
          have e1 : spanAt s t K (j : Int) = spanI s t (K.getD j zKy) := by unfold spanAt; rw [if_pos hin]; rfl
          rwa [e1] at h⟩
        have HFx : Aside0 (∀ W, Below w4.heap.size w4 W → Calls Tryd.prog 21 #[.pointer (some ⟨g, 0, none⟩), .string s, .int .i64 (j : Int)] W fun e w' => e = .returned (.string (filtK (K.getD j zKy).f4 (textI s t (K.getD j zKy)))) ∧ Below W.heap.size W w') := ⟨fun W hb => by
          have h := HFI.out W (HO.out.below hb) (j : Int)
          have e1 : filtAt s t K (j : Int) = filtK (K.getD j zKy).f4 (textI s t (K.getD j zKy)) := by unfold filtAt; rw [if_pos hin]; rfl
          rwa [e1] at h⟩
        have HRx := Aside0.mk (HRS.out j hj)
        have HRy := Aside0.mk (HRF.out j hj)
        obtain ⟨ad9, e9, x0, x1, x2, x3, x4, x5⟩ := at_T33 HKC.out (j : Int) (by omega) (by omega)
        obtain rfl := Option.some.inj e9
        have hrd : rd_T33 K (j : Int) = K.getD j zKy := rfl
        rw [hrd] at x0 x1 x2 x3 x4 x5
        simp only [add_plain, Int.toNat_natCast] at x0 x1 x2 x3 x4 x5
        have X0 := Aside0.mk x0
        have X1 := Aside0.mk x1
        have X2 := Aside0.mk x2
        have X3 := Aside0.mk x3
        have X4 := Aside0.mk x4
        have X5 := Aside0.mk x5
        clear hrd x0 x1 x2 x3 x4 x5 e9
        generalize filtK (K.getD j zKy).f4 (textI s t (K.getD j zKy)) = ff at HFx HRy
        generalize spanI s t (K.getD j zKy) = rr at HSx HRx
        generalize K.getD j zKy = kx at *
        obtain ⟨r1, r2⟩ := rr
        simp only at HSx HRx
        have hj0 : decide (0 ≤ (j : Int)) = true := decide_eq_true (by omega)
        have hj1 : decide ((j : Int) < (K.length : Int)) = true := decide_eq_true hin.2
        clear hin hle
        go_upto_region 9 with (first
          | (go_at_call 15; refine Calls.mono (HSx.out _ HW.out) ?_; rintro e w6 ⟨rfl, hb6⟩; replace HW := Aside0.mk (bstep HW.out hb6); clear hb6))
        obtain ⟨W5, hW5⟩ : ∃ W5 : World, W5 = w6.alloc (.cells #[.int .i64 r1, .int .i64 r2] 37) := ⟨_, rfl⟩
        have hb5 : Below w6.heap.size w6 W5 := by rw [hW5]; exact (Below.refl _ _).alloc (Nat.le_refl _) _
        have z11 : W5.heap[w6.heap.size]? = some (.cells #[.int .i64 r1, .int .i64 r2] 37 (0, 0)) := by rw [hW5]; exact heap_alloc_new _ _
        replace HW := Aside0.mk (bstep HW.out hb5)
        rw [← hW5]
        clear hW5 hb5
        have A0' := Aside0.mk (blk_cell z11 0)
        have A1' := Aside0.mk (blk_cell z11 1)
        clear z11
        generalize w6.heap.size = g11 at *
        go_upto_region 13 with (first
          | (go_at_call 21; refine Calls.mono (HFx.out _ HW.out) ?_; rintro e w7 ⟨rfl, hb7⟩; replace HW := Aside0.mk (bstep HW.out hb7); replace A0' := Aside0.mk (cell_stays hb7 A0'.out); replace A1' := Aside0.mk (cell_stays hb7 A1'.out); clear hb7))
        obtain ⟨W10, hW10⟩ : ∃ W10 : World, W10 = w7.alloc (.cells #[.int .i64 0, .int .i64 0] 37) := ⟨_, rfl⟩
        have hb10 : Below w7.heap.size w7 W10 := by rw [hW10]; exact (Below.refl _ _).alloc (Nat.le_refl _) _
        have Z13 : Aside0 (W10.heap[w7.heap.size]? = some (.cells #[.int .i64 0, .int .i64 0] 37 (0, 0))) := ⟨by rw [hW10]; exact heap_alloc_new _ _⟩
        rw [← hW10]
        clear hW10
        have y0 := cell_stays HW.out X0.out
        have y1 := cell_stays HW.out X1.out
        have y2 := cell_stays HW.out X2.out
        have y3 := cell_stays HW.out X3.out
        have y4 := cell_stays HW.out X4.out
        have y5 := cell_stays HW.out X5.out
        have yt := cell_stays HW.out HT.out
        have KP := Aside0.mk (fun (w' : World) (hb : Aside0 (Below w7.heap.size w7 w')) => (⟨cell_stays hb.out yt, cell_stays hb.out y0, cell_stays hb.out y1, cell_stays hb.out y2, cell_stays hb.out y3, cell_stays hb.out y4, cell_stays hb.out y5, hb⟩ : w'.cell? ⟨g0, 2, none⟩ = some (.int .i64 t) ∧ w'.cell? ⟨g9, j * 6, none⟩ = some (.int .i64 kx.f0) ∧ w'.cell? ⟨g9, j * 6 + 1, none⟩ = some (.int .i64 kx.f1) ∧ w'.cell? ⟨g9, j * 6 + 2, none⟩ = some (.int .i64 kx.f2) ∧ w'.cell? ⟨g9, j * 6 + 3, none⟩ = some (.int .i64 kx.f3) ∧ w'.cell? ⟨g9, j * 6 + 4, none⟩ = some (.int .u16 kx.f4) ∧ w'.cell? ⟨g9, j * 6 + 5, none⟩ = some (.bool kx.f5) ∧ Aside0 (Below w7.heap.size w7 w')))
        clear y0 y1 y2 y3 y4 y5 yt X0 X1 X2 X3 X4 X5
        have HBd : Aside0 (Below w7.heap.size w7 W10.drew) := ⟨hb10.drew⟩
        clear hb10
        go_region_held3 (fun w' => w'.cell? ⟨g0, 2, none⟩ = some (.int .i64 t) ∧ w'.cell? ⟨g9, j * 6, none⟩ = some (.int .i64 kx.f0) ∧ w'.cell? ⟨g9, j * 6 + 1, none⟩ = some (.int .i64 kx.f1) ∧ w'.cell? ⟨g9, j * 6 + 2, none⟩ = some (.int .i64 kx.f2) ∧ w'.cell? ⟨g9, j * 6 + 3, none⟩ = some (.int .i64 kx.f3) ∧ w'.cell? ⟨g9, j * 6 + 4, none⟩ = some (.int .u16 kx.f4) ∧ w'.cell? ⟨g9, j * 6 + 5, none⟩ = some (.bool kx.f5) ∧ Aside0 (Below w7.heap.size w7 w'))
          ((refine KP.out _ ?_; first | assumption | exact ⟨below_set (below_set (Aside0.out (by assumption)) (Nat.le_refl _)) (Nat.le_refl _)⟩))
          (first
            | (go_at_call 16; refine Calls.mono (HRx.out _) ?_; rintro e w8 ⟨rfl, hb8⟩; have HB8 : Aside0 (Below w7.heap.size w7 w8) := ⟨bstep HBd.out hb8⟩; have hz8 : w8.heap[w7.heap.size]? = some (.cells #[.int .i64 0, .int .i64 0] 37 (0, 0)) := (hb8.block _ (blk_lt (w := W10.drew) Z13.out)).trans Z13.out; have z0 := blk_cell hz8 0; have z1 := blk_cell hz8 1; have f0 := blk_frozen hz8 0; have f1 := blk_frozen hz8 1; simp at z0 z1; clear hb8))
        obtain ⟨W11, hW11⟩ : ∃ W11 : World, W11 = (w8.setCell ⟨w7.heap.size, 0, none⟩ (.int .i64 r1)).setCell ⟨w7.heap.size, 1, none⟩ (.int .i64 r2) := ⟨_, rfl⟩
        have HB11 : Aside0 (Below w7.heap.size w7 W11) := ⟨by rw [hW11]; exact below_set (below_set HB8.out (Nat.le_refl _)) (Nat.le_refl _)⟩
        have Z11 : Aside0 (W11.heap[w7.heap.size]? = some (.cells #[.int .i64 r1, .int .i64 r2] 37 (0, 0))) := ⟨by rw [hW11]; exact blk_put (cs := #[.int .i64 r1, .int .i64 0]) (blk_put (cs := #[.int .i64 0, .int .i64 0]) hz8 0 _ rfl) 1 _ rfl⟩
        rw [← hW11]
        clear hW11 hz8 z0 z1 f0 f1 HB8 HBd Z13
        have HBe : Aside0 (Below w7.heap.size w7 W11.drew) := ⟨HB11.out.drew⟩
        go_wp2
        go_region_held3 (fun w' => w'.cell? ⟨g0, 2, none⟩ = some (.int .i64 t) ∧ w'.cell? ⟨g9, j * 6, none⟩ = some (.int .i64 kx.f0) ∧ w'.cell? ⟨g9, j * 6 + 1, none⟩ = some (.int .i64 kx.f1) ∧ w'.cell? ⟨g9, j * 6 + 2, none⟩ = some (.int .i64 kx.f2) ∧ w'.cell? ⟨g9, j * 6 + 3, none⟩ = some (.int .i64 kx.f3) ∧ w'.cell? ⟨g9, j * 6 + 4, none⟩ = some (.int .u16 kx.f4) ∧ w'.cell? ⟨g9, j * 6 + 5, none⟩ = some (.bool kx.f5) ∧ Aside0 (Below w7.heap.size w7 w'))
          ((refine KP.out _ ?_; first | assumption | exact ⟨below_set (below_set (Aside0.out (by assumption)) (Nat.le_refl _)) (Nat.le_refl _)⟩))
          (first
            | (go_at_call 22; refine Calls.mono (HRy.out _) ?_; rintro e w12 ⟨rfl, hb12⟩; have HB12 : Aside0 (Below w7.heap.size w7 w12) := ⟨bstep HBe.out hb12⟩; have hz12 : w12.heap[w7.heap.size]? = some (.cells #[.int .i64 r1, .int .i64 r2] 37 (0, 0)) := (hb12.block _ (blk_lt (w := W11.drew) Z11.out)).trans Z11.out; have z0 := blk_cell hz12 0; have z1 := blk_cell hz12 1; simp at z0 z1; clear hb12 hz12))
        have a0 := cell_stays HB12.out A0'.out
        have a1 := cell_stays HB12.out A1'.out
        simp at a0 a1
        go_wp2
        have hw64 : wrap64 ((j : Int) + 1) = (j : Int) + 1 := wrap64_id (by omega) (by have := HK2.out; omega)
        rw [hw64]
        exact ⟨⟨(j : Int) + 1, rfl, by omega, by omega, ⟨bstep HW.out HB12.out⟩⟩, by simp [intOf]; omega⟩
      · have HSx : Aside0 (∀ W, Below w4.heap.size w4 W → Calls Tryd.prog 15 #[.pointer (some ⟨g, 0, none⟩), .string s, .int .i64 x] W fun e w' => e = .returned (.agg #[.int .i64 0, .int .i64 0]) ∧ Below W.heap.size W w') := ⟨fun W hb => by
          have h := HSP.out W (HO.out.below hb) x
          have e1 : spanAt s t K x = (0, 0) := by unfold spanAt; rw [if_neg hin]
          rwa [e1] at h⟩
        have HFx : Aside0 (∀ W, Below w4.heap.size w4 W → Calls Tryd.prog 21 #[.pointer (some ⟨g, 0, none⟩), .string s, .int .i64 x] W fun e w' => e = .returned (.string ⟨#[]⟩) ∧ Below W.heap.size W w') := ⟨fun W hb => by
          have h := HFI.out W (HO.out.below hb) x
          have e1 : filtAt s t K x = ⟨#[]⟩ := by unfold filtAt; rw [if_neg hin]
          rwa [e1] at h⟩
        have HXw : Aside0 (wrap64 (x + 1) = x + 1) := ⟨by have := HK2.out; unfold wrap64; omega⟩
        have HXb : Aside0 (-1 ≤ x ∧ x ≤ (K.length : Int)) := ⟨⟨hx0, hle⟩⟩
        have hsplit : decide (0 ≤ x) = false ∨ (decide (0 ≤ x) = true ∧ decide (x < (K.length : Int)) = false) := by
          by_cases h0 : 0 ≤ x
          · exact .inr ⟨decide_eq_true h0, decide_eq_false (fun h => hin ⟨h0, h⟩)⟩
          · exact .inl (decide_eq_false h0)
        clear hin hle hx0 hx1
        rcases hsplit with hj0 | ⟨hj0, hj1⟩
        all_goals
          go_upto_region 9 with (first
            | (go_at_call 15; refine Calls.mono (HSx.out _ HW.out) ?_; rintro e w6 ⟨rfl, hb6⟩; replace HW := Aside0.mk (bstep HW.out hb6); clear hb6))
          obtain ⟨W5, hW5⟩ : ∃ W5 : World, W5 = w6.alloc (.cells #[.int .i64 0, .int .i64 0] 37) := ⟨_, rfl⟩
          have hb5 : Below w6.heap.size w6 W5 := by rw [hW5]; exact (Below.refl _ _).alloc (Nat.le_refl _) _
          have z11 : W5.heap[w6.heap.size]? = some (.cells #[.int .i64 0, .int .i64 0] 37 (0, 0)) := by rw [hW5]; exact heap_alloc_new _ _
          replace HW := Aside0.mk (bstep HW.out hb5)
          rw [← hW5]
          clear hW5 hb5
          have A0' := Aside0.mk (blk_cell z11 0)
          have A1' := Aside0.mk (blk_cell z11 1)
          clear z11
          generalize w6.heap.size = g11 at *
          go_upto_region 12 with (first
            | (go_at_call 21; refine Calls.mono (HFx.out _ HW.out) ?_; rintro e w7 ⟨rfl, hb7⟩; replace HW := Aside0.mk (bstep HW.out hb7); replace A0' := Aside0.mk (cell_stays hb7 A0'.out); replace A1' := Aside0.mk (cell_stays hb7 A1'.out); clear hb7))
          obtain ⟨W10, hW10⟩ : ∃ W10 : World, W10 = w7.alloc (.cells #[.int .i64 0, .int .i64 0] 37) := ⟨_, rfl⟩
          have HB10 : Aside0 (Below w7.heap.size w7 W10) := ⟨by rw [hW10]; exact (Below.refl _ _).alloc (Nat.le_refl _) _⟩
          have z13 : W10.heap[w7.heap.size]? = some (.cells #[.int .i64 0, .int .i64 0] 37 (0, 0)) := by rw [hW10]; exact heap_alloc_new _ _
          rw [← hW10]
          clear hW10
          have z0 := blk_cell z13 0
          have z1 := blk_cell z13 1
          have a0 := cell_stays HB10.out A0'.out
          have a1 := cell_stays HB10.out A1'.out
          simp at z0 z1 a0 a1
          clear z13
          go_wp2
          rw [HXw.out]
          have hxb := HXb.out
          exact ⟨⟨x + 1, rfl, by omega, by omega, ⟨bstep HW.out HB10.out⟩⟩, by simp [intOf]; omega⟩
    · have hd : decide (x ≤ (K.length : Int)) = false := decide_eq_false hle
      clear hle hx0 hx1
      have hu3 := Tryd.underlying37
      have HSx : Aside0 (∀ W, Below w4.heap.size w4 W → Calls Tryd.prog 15 #[.pointer (some ⟨g, 0, none⟩), .string s, .int .i64 i] W fun e w' => e = .returned (.agg #[.int .i64 (spanAt s t K i).1, .int .i64 (spanAt s t K i).2]) ∧ Below W.heap.size W w') := ⟨fun W hb => HSP.out W (HO.out.below hb) i⟩
      by_cases hin : 0 ≤ i ∧ i < (K.length : Int)
      · have hj0 : decide (0 ≤ i) = true := decide_eq_true hin.1
        have hj1 : decide (i < (K.length : Int)) = true := decide_eq_true hin.2
        clear hin
        generalize spanAt s t K i = rr at HSx
        obtain ⟨r1, r2⟩ := rr
        simp only at HSx
        cases hq1 : (r1 == 0) <;> cases hq2 : (r2 == 0)
        all_goals
          go_wp2_with (first
            | (go_at_call 15; refine Calls.mono (HSx.out _ HW.out) ?_; rintro e w6 ⟨rfl, hb6⟩; replace HW := Aside0.mk (bstep HW.out hb6); clear hb6))
          go_ret
          refine ⟨by first | rfl | (simp; done), bstep HB.out ?_⟩
          exact HW.out.alloc HW.out.size _
      · have e1 : spanAt s t K i = (0, 0) := by unfold spanAt; rw [if_neg hin]
        rw [e1] at HSx
        clear hin e1
        go_wp2_with (first
          | (go_at_call 15; refine Calls.mono (HSx.out _ HW.out) ?_; rintro e w6 ⟨rfl, hb6⟩; replace HW := Aside0.mk (bstep HW.out hb6); clear hb6))
        go_ret
        refine ⟨by first | rfl | (simp; done), bstep HB.out ?_⟩
        exact HW.out.alloc HW.out.size _
end Go.Proofs.YtnnoegjgaelafaaDoor.Pr
