/- What the document's Effective answers: the same keys as the program's. -/
import Derived.Test.YtnnoegjgaelafaaDoorChk1
namespace Go.Proofs.YtnnoegjgaelafaaDoor.Pr
open Go.RowKit Go.Proofs.YtnnoegjgaelafaaDoorW.PrintWords Go.Proofs.YtnnoegjgaelafaaDoorW.PrintLast
set_option linter.unusedVariables false
set_option linter.unusedSimpArgs false

theorem below_drop1 {B : Nat} {a w : World} (h : Below (B + 1) a w) : Below B a w := h.mono (Nat.le_succ _)
theorem take_map_next {α β : Type} (f : α → β) (K : List α) (i : Nat) (h : i < K.length) : (K.take (i + 1)).map f = (K.take i).map f ++ [f K[i]] := by
  rw [← List.take_append_getElem h, List.map_append]; rfl
set_option maxHeartbeats 8000000 in
set_option maxRecDepth 100000 in
theorem reff_calls (A0 : Option Addr) (c0 : Nat) (l0 : List Ky) (m t : Int) (st un : Bool) (r : Rest) (w : World) (hr0 : Kd.C k33 w A0 l0.length l0) (hc0 : l0.length ≤ c0) (hl : l0.length ≤ 1000000) (mn : Nat) (hm : m = (mn : Int)) (hm2 : mn < 1024) :
    Calls Tryd.prog 13 #[.agg (optVal (.slice A0 l0.length c0) m t st un r)] w fun e w' => ∃ v0 : Value, e = .returned v0 ∧ Kd.R k33 33 w' w.heap.size (fun _ => True) v0 (effKeys m (modB m) l0) ∧ Below w.heap.size w w' := by
  have hu := Tryd.underlying28
  have hu2 := Tryd.underlying33
  have HR0 := Aside0.mk hr0
  have HH := Aside0.mk (fun W => millref5_has.calls m 1 (modB m) W (by rw [hm]; exact has_one mn hm2))
  clear hr0 hm
  unfold optVal
  go_enter Tryd.func13, Tryd.ntmps13
  go_wp2
  obtain ⟨box, hbox⟩ : ∃ o : Obj, o = .cells #[.slice A0 l0.length c0, .int .u16 m, .int .i64 t, .bool st, .bool un, .bool r.r5, .bool r.r6, .int .u8 r.r7, .string r.r8, .bool r.r9, .int .i64 r.r10, .int .i64 r.r11, .int .i64 r.r12, .int .i64 r.r13, .string r.r14, .bool r.r15, .string r.r16, r.r17] 28 := ⟨_, rfl⟩
  have hc : ∀ j : Nat, (w.alloc box).cell? ⟨w.heap.size, j, none⟩ = #[.slice A0 l0.length c0, .int .u16 m, .int .i64 t, .bool st, .bool un, .bool r.r5, .bool r.r6, .int .u8 r.r7, .string r.r8, .bool r.r9, .int .i64 r.r10, .int .i64 r.r11, .int .i64 r.r12, .int .i64 r.r13, .string r.r14, .bool r.r15, .string r.r16, r.r17][j]? := fun j => by
    unfold World.cell?
    rw [heap_alloc_new, hbox]
    rfl
  have hk0 := hc 0
  have hk1 := hc 1
  rw [← hbox]
  simp at hk0 hk1
  have H0 := Aside0.mk hk0
  have H1 := Aside0.mk hk1
  clear hk0 hk1 hbox hc
  go_loopw [3, 4] (fun v3 v4 wr => ∃ (i : Nat) (v : Value) (xs : List Ky), v3 = v ∧ v4 = .int .i64 i ∧ i ≤ l0.length ∧ Aside0 (xs = (l0.take i).map (effKey m (modB m))) ∧ Aside0 (Kd.R k33 33 wr (w.heap.size + 1) (fun _ => True) v xs) ∧ Aside0 (Below (w.heap.size + 1) (w.alloc box) wr)) (fun _ v _ => l0.length - (intOf v).toNat)
  case atStart => exact ⟨0, _, [], rfl, rfl, Nat.zero_le _, ⟨rfl⟩, ⟨Kd.R_nil _ _ _ _ _⟩, ⟨Below.refl _ _⟩⟩
  case round =>
    obtain ⟨i, v, xs, rfl, rfl, hi, HX, HRi, HBi⟩ := hrel
    have HR8 := Kd.R_slice HRi.out
    obtain ⟨A8, c8, hv8⟩ := HR8
    subst hv8
    have hk0 := (HBi.out.cell (p := ⟨w.heap.size, 0, none⟩) (Nat.lt_succ_self _)).trans H0.out
    have hk1 := (HBi.out.cell (p := ⟨w.heap.size, 1, none⟩) (Nat.lt_succ_self _)).trans H1.out
    have hws : w.heap.size < wr.heap.size := by have := HBi.out.size; simp at this; omega
    have hne : wr.heap.size ≠ w.heap.size := by omega
    by_cases hlt : i < l0.length
    · have HLT := Aside0.mk hlt
      obtain ⟨ad, e, x0, x1, x2, x3, x4, x5⟩ := at_T33 (Kd.C_below HR0.out (((Below.refl _ _).alloc (Nat.le_refl _) _).trans (HBi.out.mono (Nat.le_succ _)))) (i : Int) (by omega) (by omega)
      subst e
      have hrd : rd_T33 l0 (i : Int) = l0[i] := by simp [rd_T33, hlt]
      rw [hrd] at x0 x1 x2 x3 x4 x5
      simp only [Int.toNat_natCast] at x0 x1 x2 x3 x4 x5
      have HN := Aside0.mk (take_map_next (effKey m (modB m)) l0 i hlt)
      clear hrd
      generalize hkx : l0[i] = kx at *
      clear hkx
      have hHL : Aside0 (xs.length ≤ 1000000) := ⟨by rw [HX.out]; simp; omega⟩
      cases hd4 : (kx.f4 == 0) <;> cases hd5 : kx.f5
      · have HE : Aside0 (effKey m (modB m) kx = (⟨kx.f0, kx.f1, kx.f2, kx.f3, kx.f4, false⟩ : Ky)) := ⟨by unfold effKey; rw [hd4]; cases kx; simp at hd5; subst hd5; rfl⟩
        have HB0 : Aside0 (Below wr.heap.size wr (wr.alloc (.cells #[.int .i64 kx.f0, .int .i64 kx.f1, .int .i64 kx.f2, .int .i64 kx.f3, .int .u16 kx.f4, .bool false] 33))) := ⟨(Below.refl _ _).alloc (Nat.le_refl _) _⟩
        rw [hd5] at x5
        have HE5 := Aside0.mk hd5
        clear hd5
        go_wp2_with (first | ((try (refine gate_guard (by rfl) ?_; dsimp only)); at_builtin; refine Kd.R_append k33 (w0 := w.alloc box) (w.heap.size + 1) rfl (.tmp 34) (.tmp 36) 22 33 (.agg #[.int .i64 0, .int .i64 0, .int .i64 0, .int .i64 0, .int .u16 0, .bool false]) 40 rfl Tryd.underlying22 infoKey rfl (by decide) (by omega) (.slice A8 xs.length c8) xs (⟨kx.f0, kx.f1, kx.f2, kx.f3, kx.f4, false⟩ : Ky) (keyCells (⟨kx.f0, kx.f1, kx.f2, kx.f3, kx.f4, false⟩ : Ky)) (fun _ => True) (fun _ => False) rfl ?aX ?aP (fun _ h => h.elim) ?aF ?aO ?aB ?aS ?aL ?_; (case aX => simp [Act.eval]); (case aP => exact key_M _ _ _ _); (case aF => exact fun _ _ => trivial); (case aO => exact Kd.R_below HRi.out HB0.out); (case aB => exact HBi.out.trans (HB0.out.mono (Nat.succ_le_of_lt hws))); (case aS => exact Nat.le_trans hws HB0.out.size); (case aL => have := hHL.out; omega); intro v1 w1 hR1 hB1 _ _; have HR9 := Aside0.mk hR1; have HB9 := Aside0.mk hB1; clear hR1 hB1))
        go_wp2
        go_roundw
        case rel => exact ⟨i + 1, _, _, rfl, by go_num, HLT.out, ⟨by rw [HN.out, HE.out, HX.out]⟩, HR9, HB9⟩
        case measure => simp [intOf]; omega
      · have HE : Aside0 (effKey m (modB m) kx = (⟨kx.f0, kx.f1, kx.f2, kx.f3, kx.f4, true⟩ : Ky)) := ⟨by unfold effKey; rw [hd4]; cases kx; simp at hd5; subst hd5; rfl⟩
        have HB0 : Aside0 (Below wr.heap.size wr (wr.alloc (.cells #[.int .i64 kx.f0, .int .i64 kx.f1, .int .i64 kx.f2, .int .i64 kx.f3, .int .u16 kx.f4, .bool true] 33))) := ⟨(Below.refl _ _).alloc (Nat.le_refl _) _⟩
        rw [hd5] at x5
        have HE5 := Aside0.mk hd5
        clear hd5
        go_wp2_with (first | ((try (refine gate_guard (by rfl) ?_; dsimp only)); at_builtin; refine Kd.R_append k33 (w0 := w.alloc box) (w.heap.size + 1) rfl (.tmp 34) (.tmp 36) 22 33 (.agg #[.int .i64 0, .int .i64 0, .int .i64 0, .int .i64 0, .int .u16 0, .bool false]) 40 rfl Tryd.underlying22 infoKey rfl (by decide) (by omega) (.slice A8 xs.length c8) xs (⟨kx.f0, kx.f1, kx.f2, kx.f3, kx.f4, true⟩ : Ky) (keyCells (⟨kx.f0, kx.f1, kx.f2, kx.f3, kx.f4, true⟩ : Ky)) (fun _ => True) (fun _ => False) rfl ?aX ?aP (fun _ h => h.elim) ?aF ?aO ?aB ?aS ?aL ?_; (case aX => simp [Act.eval]); (case aP => exact key_M _ _ _ _); (case aF => exact fun _ _ => trivial); (case aO => exact Kd.R_below HRi.out HB0.out); (case aB => exact HBi.out.trans (HB0.out.mono (Nat.succ_le_of_lt hws))); (case aS => exact Nat.le_trans hws HB0.out.size); (case aL => have := hHL.out; omega); intro v1 w1 hR1 hB1 _ _; have HR9 := Aside0.mk hR1; have HB9 := Aside0.mk hB1; clear hR1 hB1))
        go_wp2
        go_roundw
        case rel => exact ⟨i + 1, _, _, rfl, by go_num, HLT.out, ⟨by rw [HN.out, HE.out, HX.out]⟩, HR9, HB9⟩
        case measure => simp [intOf]; omega
      · have HE : Aside0 (effKey m (modB m) kx = (⟨kx.f0, kx.f1, kx.f2, kx.f3, m, modB m⟩ : Ky)) := ⟨by unfold effKey; rw [hd4, hd5]; rfl⟩
        rw [hd5] at x5
        have HE5 := Aside0.mk hd5
        clear hd5
        go_wp2_with (first | (go_at_call 32; refine (HH.out _).mono ?_; rintro e w3 ⟨rfl, ⟨nq, rfl⟩⟩; have HB0 : Aside0 (Below wr.heap.size wr (((wr.alloc (.cells #[.int .i64 kx.f0, .int .i64 kx.f1, .int .i64 kx.f2, .int .i64 kx.f3, .int .u16 m, .bool false] 33)).drewN nq).setCell ⟨wr.heap.size, 5, none⟩ (.bool (modB m)))) := ⟨(pw_below_drewN ((Below.refl _ _).alloc (Nat.le_refl _) _) _).setCell (p := ⟨wr.heap.size, 5, none⟩) (Nat.le_refl _) _⟩) | ((try (refine gate_guard (by rfl) ?_; dsimp only)); at_builtin; refine Kd.R_append k33 (w0 := w.alloc box) (w.heap.size + 1) rfl (.tmp 34) (.tmp 36) 22 33 (.agg #[.int .i64 0, .int .i64 0, .int .i64 0, .int .i64 0, .int .u16 0, .bool false]) 40 rfl Tryd.underlying22 infoKey rfl (by decide) (by omega) (.slice A8 xs.length c8) xs (⟨kx.f0, kx.f1, kx.f2, kx.f3, m, modB m⟩ : Ky) (keyCells (⟨kx.f0, kx.f1, kx.f2, kx.f3, m, modB m⟩ : Ky)) (fun _ => True) (fun _ => False) rfl ?aX ?aP (fun _ h => h.elim) ?aF ?aO ?aB ?aS ?aL ?_; (case aX => simp [Act.eval]); (case aP => exact key_M _ _ _ _); (case aF => exact fun _ _ => trivial); (case aO => exact Kd.R_below HRi.out HB0.out); (case aB => exact HBi.out.trans (HB0.out.mono (Nat.succ_le_of_lt hws))); (case aS => exact Nat.le_trans hws HB0.out.size); (case aL => have := hHL.out; omega); intro v1 w1 hR1 hB1 _ _; have HR9 := Aside0.mk hR1; have HB9 := Aside0.mk hB1; clear hR1 hB1))
        go_wp2
        go_roundw
        case rel => exact ⟨i + 1, _, _, rfl, by go_num, HLT.out, ⟨by rw [HN.out, HE.out, HX.out]⟩, HR9, HB9⟩
        case measure => simp [intOf]; omega
      · have HE : Aside0 (effKey m (modB m) kx = (⟨kx.f0, kx.f1, kx.f2, kx.f3, kx.f4, true⟩ : Ky)) := ⟨by unfold effKey; rw [hd4, hd5]; cases kx; simp at hd5; subst hd5; rfl⟩
        have HB0 : Aside0 (Below wr.heap.size wr (wr.alloc (.cells #[.int .i64 kx.f0, .int .i64 kx.f1, .int .i64 kx.f2, .int .i64 kx.f3, .int .u16 kx.f4, .bool true] 33))) := ⟨(Below.refl _ _).alloc (Nat.le_refl _) _⟩
        rw [hd5] at x5
        have HE5 := Aside0.mk hd5
        clear hd5
        go_wp2_with (first | ((try (refine gate_guard (by rfl) ?_; dsimp only)); at_builtin; refine Kd.R_append k33 (w0 := w.alloc box) (w.heap.size + 1) rfl (.tmp 34) (.tmp 36) 22 33 (.agg #[.int .i64 0, .int .i64 0, .int .i64 0, .int .i64 0, .int .u16 0, .bool false]) 40 rfl Tryd.underlying22 infoKey rfl (by decide) (by omega) (.slice A8 xs.length c8) xs (⟨kx.f0, kx.f1, kx.f2, kx.f3, kx.f4, true⟩ : Ky) (keyCells (⟨kx.f0, kx.f1, kx.f2, kx.f3, kx.f4, true⟩ : Ky)) (fun _ => True) (fun _ => False) rfl ?aX ?aP (fun _ h => h.elim) ?aF ?aO ?aB ?aS ?aL ?_; (case aX => simp [Act.eval]); (case aP => exact key_M _ _ _ _); (case aF => exact fun _ _ => trivial); (case aO => exact Kd.R_below HRi.out HB0.out); (case aB => exact HBi.out.trans (HB0.out.mono (Nat.succ_le_of_lt hws))); (case aS => exact Nat.le_trans hws HB0.out.size); (case aL => have := hHL.out; omega); intro v1 w1 hR1 hB1 _ _; have HR9 := Aside0.mk hR1; have HB9 := Aside0.mk hB1; clear hR1 hB1))
        go_wp2
        go_roundw
        case rel => exact ⟨i + 1, _, _, rfl, by go_num, HLT.out, ⟨by rw [HN.out, HE.out, HX.out]⟩, HR9, HB9⟩
        case measure => simp [intOf]; omega
    · have hge : i = l0.length := by omega
      subst hge
      have HXn : Aside0 (xs = l0.map (effKey m (modB m))) := ⟨by rw [HX.out, List.take_length]⟩
      have HXl : Aside0 (xs.length = l0.length) := ⟨by rw [HXn.out, List.length_map]⟩
      rcases Nat.eq_zero_or_pos l0.length with hz | hp
      · have hl0 : l0 = [] := List.eq_nil_of_length_eq_zero hz
        have hx0 : xs = [] := by rw [HXn.out, hl0]; rfl
        subst hx0
        subst hl0
        have HNil : Aside0 (effKeys m (modB m) [] = [(⟨1, 1, 0, 0, m, modB m⟩ : Ky)]) := ⟨rfl⟩
        clear hz
        go_wp2_with (first | (go_at_call 32; refine (HH.out _).mono ?_; rintro e w3 ⟨rfl, ⟨nq, rfl⟩⟩) | (at_builtin; refine Kd.R_append k33 (w0 := w.alloc box) (w.heap.size + 1) rfl (.tmp 44) (.tmp 49) 22 33 (.agg #[.int .i64 0, .int .i64 0, .int .i64 0, .int .i64 0, .int .u16 0, .bool false]) 40 rfl Tryd.underlying22 infoKey rfl (by decide) (by omega) (.slice A8 0 c8) [] (⟨1, 1, 0, 0, m, modB m⟩ : Ky) (keyCells (⟨1, 1, 0, 0, m, modB m⟩ : Ky)) (fun _ => True) (fun _ => False) rfl ?aX ?aP (fun _ h => h.elim) ?aF ?aO ?aB ?aS ?aL ?_; (case aX => simp [Act.eval]); (case aP => exact key_M _ _ _ _); (case aF => exact fun _ _ => trivial); (case aO => exact Kd.R_drewN HRi.out nq); (case aB => exact pw_below_drewN HBi.out nq); (case aS => simp; omega); (case aL => simp); intro v1 w1 hR1 hB1 _ _; have HR9 := Aside0.mk hR1; have HB9 := Aside0.mk hB1; clear hR1 hB1))
        go_wp2
        go_ret
        exact ⟨v1, rfl, by rw [HNil.out]; exact Kd.R_lower HR9.out (Nat.le_succ _), ((Below.refl _ _).alloc (Nat.le_refl _) _).trans (HB9.out.mono (Nat.le_succ _))⟩
      · have hx : ¬ xs = [] := by intro hx; have := HXl.out; rw [hx] at this; simp at this; omega
        have hcc : ((xs.length : Int) == 0) = false := by rw [beq_eq_false_iff_ne]; have := HXl.out; omega
        have e9 : effKeys m (modB m) l0 = xs := by rw [HXn.out]; unfold effKeys; rw [if_neg (by intro h; rw [h] at hp; cases hp)]
        have E9 := Aside0.mk e9
        clear e9
        go_wp2
        go_ret
        exact ⟨.slice A8 xs.length c8, rfl, by rw [E9.out]; exact Kd.R_lower HRi.out (Nat.le_succ _), (((Below.refl _ _).alloc (Nat.le_refl _) _).trans (HBi.out.mono (Nat.le_succ _)))⟩
end Go.Proofs.YtnnoegjgaelafaaDoor.Pr
