/- What the document's Effective answers: the same keys as the program's. What the document's Check answers. New in one statement; the document's Check in one statement. The law's 'ordered': New's answer is as the document's Check says. -/
import Derived.Test.YtnnoegjgaelafaaDoorQWholeAz
import Derived.Test.YtnnoegjgaelafaaDoorQWholeBa
namespace Go.Proofs.YtnnoegjgaelafaaDoor.Pr
open Go.RowKit Go.Proofs.YtnnoegjgaelafaaDoorW.PrintWords Go.Proofs.YtnnoegjgaelafaaDoorW.PrintLast
set_option linter.unusedVariables false
set_option linter.unusedSimpArgs false

theorem take_map_next {α β : Type} (f : α → β) (K : List α) (i : Nat) (h : i < K.length) : (K.take (i + 1)).map f = (K.take i).map f ++ [f K[i]] := by
  rw [← List.take_append_getElem h, List.map_append]; rfl
set_option maxHeartbeats 8000000 in
set_option maxRecDepth 100000 in
theorem reff_calls (A0 : Option Addr) (c0 : Nat) (l0 : List Ky) (m t : Int) (st un : Bool) (r : Rest) (w : World) (hr0 : Kd.C k33 w A0 l0.length l0) (hc0 : l0.length ≤ c0) (hl : l0.length ≤ 1000000) (mn : Nat) (hm : m = (mn : Int)) (hm2 : mn < 1024) :
    Calls Tryd.prog 13 #[.agg (optVal (.slice A0 l0.length c0) m t st un r)] w fun e w' => ∃ v0 : Value, e = .returned v0 ∧ Kd.R k33 33 w' w.heap.size (fun _ => True) v0 (effKeys m (modB m) l0) ∧ Below w.heap.size w w' := by
  have hu := Tryd.underlying28
  have hu2 := Tryd.underlying33
  have HR0 := Aside0.mk hr0
  have HH := Aside0.mk (fun W => millref5_has.calls m 1 (modB m) W (by rw [hm]; exact has_one mn hm2))
  clear hr0 hm
  unfold optVal
  go_enter Tryd.func13, Tryd.ntmps13
  go_wp2
  obtain ⟨box, hbox⟩ : ∃ o : Obj, o = .cells #[.slice A0 l0.length c0, .int .u16 m, .int .i64 t, .bool st, .bool un, .bool r.r5, .bool r.r6, .int .u8 r.r7, .string r.r8, .bool r.r9, .int .i64 r.r10, .int .i64 r.r11, .int .i64 r.r12, .int .i64 r.r13, .string r.r14, .bool r.r15, .string r.r16, r.r17] 28 := ⟨_, rfl⟩
  have hc : ∀ j : Nat, (w.alloc box).cell? ⟨w.heap.size, j, none⟩ = #[.slice A0 l0.length c0, .int .u16 m, .int .i64 t, .bool st, .bool un, .bool r.r5, .bool r.r6, .int .u8 r.r7, .string r.r8, .bool r.r9, .int .i64 r.r10, .int .i64 r.r11, .int .i64 r.r12, .int .i64 r.r13, .string r.r14, .bool r.r15, .string r.r16, r.r17][j]? := fun j => by
    unfold World.cell?
    rw [heap_alloc_new, hbox]
    rfl
  have hk0 := hc 0
  have hk1 := hc 1
  rw [← hbox]
  simp at hk0 hk1
  have H0 := Aside0.mk hk0
  have H1 := Aside0.mk hk1
  clear hk0 hk1 hbox hc
  go_loopw [3, 4] (fun v3 v4 wr => ∃ (i : Nat) (v : Value) (xs : List Ky), v3 = v ∧ v4 = .int .i64 i ∧ i ≤ l0.length ∧ Aside0 (xs = (l0.take i).map (effKey m (modB m))) ∧ Aside0 (Kd.R k33 33 wr (w.heap.size + 1) (fun _ => True) v xs) ∧ Aside0 (Below (w.heap.size + 1) (w.alloc box) wr)) (fun _ v _ => l0.length - (intOf v).toNat)
  case atStart => exact ⟨0, _, [], rfl, rfl, Nat.zero_le _, ⟨rfl⟩, ⟨Kd.R_nil _ _ _ _ _⟩, ⟨Below.refl _ _⟩⟩
  case round =>
    obtain ⟨i, v, xs, rfl, rfl, hi, HX, HRi, HBi⟩ := hrel
    have HR8 := Kd.R_slice HRi.out
    obtain ⟨A8, c8, hv8⟩ := HR8
    subst hv8
    have hk0 := (HBi.out.cell (p := ⟨w.heap.size, 0, none⟩) (Nat.lt_succ_self _)).trans H0.out
    have hk1 := (HBi.out.cell (p := ⟨w.heap.size, 1, none⟩) (Nat.lt_succ_self _)).trans H1.out
    have hws : w.heap.size < wr.heap.size := by have := HBi.out.size; simp at this; omega
    have hne : wr.heap.size ≠ w.heap.size := by omega
    by_cases hlt : i < l0.length
    · have HLT := Aside0.mk hlt
      obtain ⟨ad, e, x0, x1, x2, x3, x4, x5⟩ := at_T33 (Kd.C_below HR0.out (((Below.refl _ _).alloc (Nat.le_refl _) _).trans (HBi.out.mono (Nat.le_succ _)))) (i : Int) (by omega) (by omega)
      subst e
      have hrd : rd_T33 l0 (i : Int) = l0[i] := by simp [rd_T33, hlt]
      rw [hrd] at x0 x1 x2 x3 x4 x5
      simp only [Int.toNat_natCast] at x0 x1 x2 x3 x4 x5
      have HN := Aside0.mk (take_map_next (effKey m (modB m)) l0 i hlt)
      clear hrd
      generalize hkx : l0[i] = kx at *
      clear hkx
      have hHL : Aside0 (xs.length ≤ 1000000) := ⟨by rw [HX.out]; simp; omega⟩
      cases hd4 : (kx.f4 == 0) <;> cases hd5 : kx.f5
      · have HE : Aside0 (effKey m (modB m) kx = (⟨kx.f0, kx.f1, kx.f2, kx.f3, kx.f4, false⟩ : Ky)) := ⟨by unfold effKey; rw [hd4]; cases kx; simp at hd5; subst hd5; rfl⟩
        have HB0 : Aside0 (Below wr.heap.size wr (wr.alloc (.cells #[.int .i64 kx.f0, .int .i64 kx.f1, .int .i64 kx.f2, .int .i64 kx.f3, .int .u16 kx.f4, .bool false] 33))) := ⟨(Below.refl _ _).alloc (Nat.le_refl _) _⟩
        rw [hd5] at x5
        have HE5 := Aside0.mk hd5
        clear hd5
        go_wp2_with (first | ((try (refine gate_guard (by rfl) ?_; dsimp only)); at_builtin; refine Kd.R_append k33 (w0 := w.alloc box) (w.heap.size + 1) rfl (.tmp 34) (.tmp 36) 22 33 (.agg #[.int .i64 0, .int .i64 0, .int .i64 0, .int .i64 0, .int .u16 0, .bool false]) 40 rfl Tryd.underlying22 infoKey rfl (by decide) (by omega) (.slice A8 xs.length c8) xs (⟨kx.f0, kx.f1, kx.f2, kx.f3, kx.f4, false⟩ : Ky) (keyCells (⟨kx.f0, kx.f1, kx.f2, kx.f3, kx.f4, false⟩ : Ky)) (fun _ => True) (fun _ => False) rfl ?aX ?aP (fun _ h => h.elim) ?aF ?aO ?aB ?aS ?aL ?_; (case aX => simp [Act.eval]); (case aP => exact key_M _ _ _ _); (case aF => exact fun _ _ => trivial); (case aO => exact Kd.R_below HRi.out HB0.out); (case aB => exact HBi.out.trans (HB0.out.mono (Nat.succ_le_of_lt hws))); (case aS => exact Nat.le_trans hws HB0.out.size); (case aL => have := hHL.out; omega); intro v1 w1 hR1 hB1 _ _; have HR9 := Aside0.mk hR1; have HB9 := Aside0.mk hB1; clear hR1 hB1))
        go_wp2
        go_roundw
        case rel => exact ⟨i + 1, _, _, rfl, by go_num, HLT.out, ⟨by rw [HN.out, HE.out, HX.out]⟩, HR9, HB9⟩
        case measure => simp [intOf]; omega
      · have HE : Aside0 (effKey m (modB m) kx = (⟨kx.f0, kx.f1, kx.f2, kx.f3, kx.f4, true⟩ : Ky)) := ⟨by unfold effKey; rw [hd4]; cases kx; simp at hd5; subst hd5; rfl⟩
        have HB0 : Aside0 (Below wr.heap.size wr (wr.alloc (.cells #[.int .i64 kx.f0, .int .i64 kx.f1, .int .i64 kx.f2, .int .i64 kx.f3, .int .u16 kx.f4, .bool true] 33))) := ⟨(Below.refl _ _).alloc (Nat.le_refl _) _⟩
        rw [hd5] at x5
        have HE5 := Aside0.mk hd5
        clear hd5
        go_wp2_with (first | ((try (refine gate_guard (by rfl) ?_; dsimp only)); at_builtin; refine Kd.R_append k33 (w0 := w.alloc box) (w.heap.size + 1) rfl (.tmp 34) (.tmp 36) 22 33 (.agg #[.int .i64 0, .int .i64 0, .int .i64 0, .int .i64 0, .int .u16 0, .bool false]) 40 rfl Tryd.underlying22 infoKey rfl (by decide) (by omega) (.slice A8 xs.length c8) xs (⟨kx.f0, kx.f1, kx.f2, kx.f3, kx.f4, true⟩ : Ky) (keyCells (⟨kx.f0, kx.f1, kx.f2, kx.f3, kx.f4, true⟩ : Ky)) (fun _ => True) (fun _ => False) rfl ?aX ?aP (fun _ h => h.elim) ?aF ?aO ?aB ?aS ?aL ?_; (case aX => simp [Act.eval]); (case aP => exact key_M _ _ _ _); (case aF => exact fun _ _ => trivial); (case aO => exact Kd.R_below HRi.out HB0.out); (case aB => exact HBi.out.trans (HB0.out.mono (Nat.succ_le_of_lt hws))); (case aS => exact Nat.le_trans hws HB0.out.size); (case aL => have := hHL.out; omega); intro v1 w1 hR1 hB1 _ _; have HR9 := Aside0.mk hR1; have HB9 := Aside0.mk hB1; clear hR1 hB1))
        go_wp2
        go_roundw
        case rel => exact ⟨i + 1, _, _, rfl, by go_num, HLT.out, ⟨by rw [HN.out, HE.out, HX.out]⟩, HR9, HB9⟩
        case measure => simp [intOf]; omega
      · have HE : Aside0 (effKey m (modB m) kx = (⟨kx.f0, kx.f1, kx.f2, kx.f3, m, modB m⟩ : Ky)) := ⟨by unfold effKey; rw [hd4, hd5]; rfl⟩
        rw [hd5] at x5
        have HE5 := Aside0.mk hd5
        clear hd5
        go_wp2_with (first | (go_at_call 32; refine (HH.out _).mono ?_; rintro e w3 ⟨rfl, ⟨nq, rfl⟩⟩; have HB0 : Aside0 (Below wr.heap.size wr (((wr.alloc (.cells #[.int .i64 kx.f0, .int .i64 kx.f1, .int .i64 kx.f2, .int .i64 kx.f3, .int .u16 m, .bool false] 33)).drewN nq).setCell ⟨wr.heap.size, 5, none⟩ (.bool (modB m)))) := ⟨(pw_below_drewN ((Below.refl _ _).alloc (Nat.le_refl _) _) _).setCell (p := ⟨wr.heap.size, 5, none⟩) (Nat.le_refl _) _⟩) | ((try (refine gate_guard (by rfl) ?_; dsimp only)); at_builtin; refine Kd.R_append k33 (w0 := w.alloc box) (w.heap.size + 1) rfl (.tmp 34) (.tmp 36) 22 33 (.agg #[.int .i64 0, .int .i64 0, .int .i64 0, .int .i64 0, .int .u16 0, .bool false]) 40 rfl Tryd.underlying22 infoKey rfl (by decide) (by omega) (.slice A8 xs.length c8) xs (⟨kx.f0, kx.f1, kx.f2, kx.f3, m, modB m⟩ : Ky) (keyCells (⟨kx.f0, kx.f1, kx.f2, kx.f3, m, modB m⟩ : Ky)) (fun _ => True) (fun _ => False) rfl ?aX ?aP (fun _ h => h.elim) ?aF ?aO ?aB ?aS ?aL ?_; (case aX => simp [Act.eval]); (case aP => exact key_M _ _ _ _); (case aF => exact fun _ _ => trivial); (case aO => exact Kd.R_below HRi.out HB0.out); (case aB => exact HBi.out.trans (HB0.out.mono (Nat.succ_le_of_lt hws))); (case aS => exact Nat.le_trans hws HB0.out.size); (case aL => have := hHL.out; omega); intro v1 w1 hR1 hB1 _ _; have HR9 := Aside0.mk hR1; have HB9 := Aside0.mk hB1; clear hR1 hB1))
        go_wp2
        go_roundw
        case rel => exact ⟨i + 1, _, _, rfl, by go_num, HLT.out, ⟨by rw [HN.out, HE.out, HX.out]⟩, HR9, HB9⟩
        case measure => simp [intOf]; omega
      · have HE : Aside0 (effKey m (modB m) kx = (⟨kx.f0, kx.f1, kx.f2, kx.f3, kx.f4, true⟩ : Ky)) := ⟨by unfold effKey; rw [hd4, hd5]; cases kx; simp at hd5; subst hd5; rfl⟩
        have HB0 : Aside0 (Below wr.heap.size wr (wr.alloc (.cells #[.int .i64 kx.f0, .int .i64 kx.f1, .int .i64 kx.f2, .int .i64 kx.f3, .int .u16 kx.f4, .bool true] 33))) := ⟨(Below.refl _ _).alloc (Nat.le_refl _) _⟩
        rw [hd5] at x5
        have HE5 := Aside0.mk hd5
        clear hd5
        go_wp2_with (first | ((try (refine gate_guard (by rfl) ?_; dsimp only)); at_builtin; refine Kd.R_append k33 (w0 := w.alloc box) (w.heap.size + 1) rfl (.tmp 34) (.tmp 36) 22 33 (.agg #[.int .i64 0, .int .i64 0, .int .i64 0, .int .i64 0, .int .u16 0, .bool false]) 40 rfl Tryd.underlying22 infoKey rfl (by decide) (by omega) (.slice A8 xs.length c8) xs (⟨kx.f0, kx.f1, kx.f2, kx.f3, kx.f4, true⟩ : Ky) (keyCells (⟨kx.f0, kx.f1, kx.f2, kx.f3, kx.f4, true⟩ : Ky)) (fun _ => True) (fun _ => False) rfl ?aX ?aP (fun _ h => h.elim) ?aF ?aO ?aB ?aS ?aL ?_; (case aX => simp [Act.eval]); (case aP => exact key_M _ _ _ _); (case aF => exact fun _ _ => trivial); (case aO => exact Kd.R_below HRi.out HB0.out); (case aB => exact HBi.out.trans (HB0.out.mono (Nat.succ_le_of_lt hws))); (case aS => exact Nat.le_trans hws HB0.out.size); (case aL => have := hHL.out; omega); intro v1 w1 hR1 hB1 _ _; have HR9 := Aside0.mk hR1; have HB9 := Aside0.mk hB1; clear hR1 hB1))
        go_wp2
        go_roundw
        case rel => exact ⟨i + 1, _, _, rfl, by go_num, HLT.out, ⟨by rw [HN.out, HE.out, HX.out]⟩, HR9, HB9⟩
        case measure => simp [intOf]; omega
    · have hge : i = l0.length := by omega
      subst hge
      have HXn : Aside0 (xs = l0.map (effKey m (modB m))) := ⟨by rw [HX.out, List.take_length]⟩
      have HXl : Aside0 (xs.length = l0.length) := ⟨by rw [HXn.out, List.length_map]⟩
      rcases Nat.eq_zero_or_pos l0.length with hz | hp
      · have hl0 : l0 = [] := List.eq_nil_of_length_eq_zero hz
        have hx0 : xs = [] := by rw [HXn.out, hl0]; rfl
        subst hx0
        subst hl0
        have HNil : Aside0 (effKeys m (modB m) [] = [(⟨1, 1, 0, 0, m, modB m⟩ : Ky)]) := ⟨rfl⟩
        clear hz
        go_wp2_with (first | (go_at_call 32; refine (HH.out _).mono ?_; rintro e w3 ⟨rfl, ⟨nq, rfl⟩⟩) | (at_builtin; refine Kd.R_append k33 (w0 := w.alloc box) (w.heap.size + 1) rfl (.tmp 44) (.tmp 49) 22 33 (.agg #[.int .i64 0, .int .i64 0, .int .i64 0, .int .i64 0, .int .u16 0, .bool false]) 40 rfl Tryd.underlying22 infoKey rfl (by decide) (by omega) (.slice A8 0 c8) [] (⟨1, 1, 0, 0, m, modB m⟩ : Ky) (keyCells (⟨1, 1, 0, 0, m, modB m⟩ : Ky)) (fun _ => True) (fun _ => False) rfl ?aX ?aP (fun _ h => h.elim) ?aF ?aO ?aB ?aS ?aL ?_; (case aX => simp [Act.eval]); (case aP => exact key_M _ _ _ _); (case aF => exact fun _ _ => trivial); (case aO => exact Kd.R_drewN HRi.out nq); (case aB => exact pw_below_drewN HBi.out nq); (case aS => simp; omega); (case aL => simp); intro v1 w1 hR1 hB1 _ _; have HR9 := Aside0.mk hR1; have HB9 := Aside0.mk hB1; clear hR1 hB1))
        go_wp2
        go_ret
        exact ⟨v1, rfl, by rw [HNil.out]; exact Kd.R_lower HR9.out (Nat.le_succ _), ((Below.refl _ _).alloc (Nat.le_refl _) _).trans (HB9.out.mono (Nat.le_succ _))⟩
      · have hx : ¬ xs = [] := by intro hx; have := HXl.out; rw [hx] at this; simp at this; omega
        have hcc : ((xs.length : Int) == 0) = false := by rw [beq_eq_false_iff_ne]; have := HXl.out; omega
        have e9 : effKeys m (modB m) l0 = xs := by rw [HXn.out]; unfold effKeys; rw [if_neg (by intro h; rw [h] at hp; cases hp)]
        have E9 := Aside0.mk e9
        clear e9
        go_wp2
        go_ret
        exact ⟨.slice A8 xs.length c8, rfl, by rw [E9.out]; exact Kd.R_lower HRi.out (Nat.le_succ _), (((Below.refl _ _).alloc (Nat.le_refl _) _).trans (HBi.out.mono (Nat.le_succ _)))⟩
end Go.Proofs.YtnnoegjgaelafaaDoor.Pr
namespace Go.Proofs.YtnnoegjgaelafaaDoor.Pr
open Go.RowKit Go.Proofs.YtnnoegjgaelafaaDoorW.PrintWords Go.Proofs.YtnnoegjgaelafaaDoorW.PrintLast
set_option linter.unusedVariables false
set_option linter.unusedSimpArgs false

/-- Are the options' numbers, keys and modifiers right? -/
def chkB (l0 : List Ky) (m t : Int) : Bool := decide (l0.length ≤ 16) && decide (-1 ≤ t) && decide (t ≤ 255) && decide (m < 1024) && l0.all rightB && (effKeys m (modB m) l0).all (fun k => togB k.f4.toNat)
def chkN (l0 : List Ky) (m t : Int) : Int := if chkB l0 m t = true then 0 else 50
theorem chkN_bad {l0 : List Ky} {m t : Int} (h : chkB l0 m t = false) : chkN l0 m t = 50 := by unfold chkN; rw [h]; rfl
theorem chkN_good {l0 : List Ky} {m t : Int} (h : chkB l0 m t = true) : chkN l0 m t = 0 := by unfold chkN; rw [h]; rfl
theorem all_false' {α : Type} {p : α → Bool} {l : List α} {i : Nat} (h : i < l.length) (hf : p l[i] = false) : l.all p = false := by
  cases hq : l.all p with
  | false => rfl
  | true => have := List.all_eq_true.1 hq _ (List.getElem_mem h); rw [hf] at this; cases this
theorem all_next' {α : Type} {p : α → Bool} {l : List α} {i : Nat} (h : i < l.length) (hf : p l[i] = true) (ha : (l.take i).all p = true) : (l.take (i + 1)).all p = true := by
  rw [← List.take_append_getElem h, List.all_append, ha]; simp [hf]
def ChkPost (w : World) (n : Int) (e : Ending) (w' : World) : Prop := e = .returned (.int .i64 n) ∧ Below w.heap.size w w'
/-- Modifiers of the effective keys are small. -/
theorem eff_small {l0 : List Ky} {m : Int} {mn : Nat} (hm : m = (mn : Int)) (hm2 : mn < 1024) (hs : ∀ k ∈ l0, ∃ n : Nat, k.f4 = (n : Int) ∧ n < 1024) : ∀ k ∈ effKeys m (modB m) l0, ∃ n : Nat, k.f4 = (n : Int) ∧ n < 1024 := by
  intro k hk
  unfold effKeys at hk
  split at hk
  · simp at hk; subst hk; exact ⟨mn, hm, hm2⟩
  · obtain ⟨k0, hk0, rfl⟩ := List.mem_map.1 hk
    unfold effKey
    split
    · exact ⟨mn, hm, hm2⟩
    · exact hs _ hk0
set_option maxHeartbeats 8000000 in
set_option maxRecDepth 100000 in
theorem check_bad (A0 : Option Addr) (c0 : Nat) (l0 : List Ky) (m t : Int) (st un : Bool) (r : Rest) (w : World) (hl : l0.length ≤ 1000000) (hw : IntKind.i64.wrap m = m)
    (hb : 16 < l0.length ∨ t < -1 ∨ 255 < t ∨ 1024 ≤ m) :
    Calls Tryd.prog 31 #[.agg (optVal (.slice A0 l0.length c0) m t st un r)] w (ChkPost w 50) := by
  have hu := Tryd.underlying28
  unfold optVal
  by_cases h1 : 16 < l0.length
  · go_enter Tryd.func31, Tryd.ntmps31
    go_wp2
    go_ret
    exact ⟨rfl, (Below.refl _ _).alloc (Nat.le_refl _) _⟩
  by_cases h2 : t < -1
  · have h1' : ¬ ((l0.length : Int) > 16) := by omega
    go_enter Tryd.func31, Tryd.ntmps31
    go_wp2
    go_ret
    exact ⟨rfl, (Below.refl _ _).alloc (Nat.le_refl _) _⟩
  by_cases h3 : t > 255
  · have h1' : ¬ ((l0.length : Int) > 16) := by omega
    go_enter Tryd.func31, Tryd.ntmps31
    go_wp2
    go_ret
    exact ⟨rfl, (Below.refl _ _).alloc (Nat.le_refl _) _⟩
  · have h1' : ¬ ((l0.length : Int) > 16) := by omega
    have h4 : m ≥ 1024 := by omega
    clear hb
    go_enter Tryd.func31, Tryd.ntmps31
    go_wp2
    go_ret
    exact ⟨rfl, (Below.refl _ _).alloc (Nat.le_refl _) _⟩
set_option maxHeartbeats 8000000 in
set_option maxRecDepth 100000 in
theorem check_main (A0 : Option Addr) (c0 : Nat) (l0 : List Ky) (m t : Int) (st un : Bool) (r : Rest) (w : World) (hr0 : Kd.C k33 w A0 l0.length l0) (hc0 : l0.length ≤ c0) (mn : Nat) (hm : m = (mn : Int)) (hk : ∀ k ∈ l0, ∃ n : Nat, k.f4 = (n : Int) ∧ n < 65536)
    (h1 : l0.length ≤ 16) (h2 : -1 ≤ t) (h3 : t ≤ 255) (h4 : mn < 1024) :
    Calls Tryd.prog 31 #[.agg (optVal (.slice A0 l0.length c0) m t st un r)] w (ChkPost w (chkN l0 m t)) := by
  have hu := Tryd.underlying28
  have hu2 := Tryd.underlying33
  have HM4 : Aside0 (m < 1024) := ⟨by omega⟩
  have hw : IntKind.i64.wrap m = m := by rw [IntKind.wrap_i64]; omega
  have h1' : ¬ ((l0.length : Int) > 16) := by omega
  have h2' : ¬ t < -1 := by omega
  have h3' : ¬ t > 255 := by omega
  have h4' : ¬ m ≥ 1024 := by omega
  have HR0 := Aside0.mk hr0
  have HMN := Aside0.mk hm
  have HE := Aside0.mk (fun (W : World) (hb : Below w.heap.size w W) => reff_calls A0 c0 l0 m t st un r W (Kd.C_below hr0 hb) hc0 (by omega) mn hm h4)
  have HKK := Aside0.mk hk
  have HB123 : Aside0 (chkB l0 m t = (l0.all rightB && (effKeys m (modB m) l0).all (fun k => togB k.f4.toNat))) := ⟨by
    unfold chkB
    rw [decide_eq_true h1, decide_eq_true h2, decide_eq_true h3, decide_eq_true HM4.out]; simp⟩
  clear hr0 hm hk
  unfold optVal at HE ⊢
  go_enter Tryd.func31, Tryd.ntmps31
  go_wp2
  obtain ⟨box, hbox⟩ : ∃ o : Obj, o = .cells #[.slice A0 l0.length c0, .int .u16 m, .int .i64 t, .bool st, .bool un, .bool r.r5, .bool r.r6, .int .u8 r.r7, .string r.r8, .bool r.r9, .int .i64 r.r10, .int .i64 r.r11, .int .i64 r.r12, .int .i64 r.r13, .string r.r14, .bool r.r15, .string r.r16, r.r17] 28 := ⟨_, rfl⟩
  have HC : Aside0 (∀ j : Nat, (w.alloc box).cell? ⟨w.heap.size, j, none⟩ = #[.slice A0 l0.length c0, .int .u16 m, .int .i64 t, .bool st, .bool un, .bool r.r5, .bool r.r6, .int .u8 r.r7, .string r.r8, .bool r.r9, .int .i64 r.r10, .int .i64 r.r11, .int .i64 r.r12, .int .i64 r.r13, .string r.r14, .bool r.r15, .string r.r16, r.r17][j]?) := ⟨fun j => by
    unfold World.cell?
    rw [heap_alloc_new, hbox]
    rfl⟩
  rw [← hbox]
  clear hbox
  go_loopw [3] (fun v3 wr => ∃ i : Nat, v3 = .int .i64 i ∧ i ≤ l0.length ∧ Aside0 ((l0.take i).all rightB = true) ∧ Aside0 (Below (w.heap.size + 1) (w.alloc box) wr)) (fun v _ => l0.length - (intOf v).toNat)
  case atStart => exact ⟨0, rfl, Nat.zero_le _, ⟨rfl⟩, ⟨Below.refl _ _⟩⟩
  case round =>
    obtain ⟨i, rfl, hi, HAi, HBi⟩ := hrel
    have hcell : ∀ j : Nat, wr.cell? ⟨w.heap.size, j, none⟩ = (w.alloc box).cell? ⟨w.heap.size, j, none⟩ := fun j => HBi.out.cell (p := ⟨w.heap.size, j, none⟩) (Nat.lt_succ_self _)
    have hk0 := (hcell 0).trans (HC.out 0)
    simp at hk0
    have HBw : Aside0 (Below w.heap.size w wr) := ⟨((Below.refl _ _).alloc (Nat.le_refl _) _).trans (HBi.out.mono (Nat.le_succ _))⟩
    by_cases hlt : i < l0.length
    · clear hcell
      have HLT := Aside0.mk hlt
      obtain ⟨ad, e, x0, x1, x2, x3, x4, x5⟩ := at_T33 (Kd.C_below HR0.out HBw.out) (i : Int) (by omega) (by omega)
      subst e
      have hrd : rd_T33 l0 (i : Int) = l0[i] := by simp [rd_T33, hlt]
      rw [hrd] at x0 x1 x2 x3 x4 x5
      simp only [Int.toNat_natCast] at x0 x1 x2 x3 x4 x5
      obtain ⟨nk, hnk, hnk2⟩ := HKK.out _ (List.getElem_mem hlt)
      have HS := Aside0.mk (fun W => millref5_shaped.calls 3 l0[i].f0 l0[i].f1 l0[i].f2 l0[i].f3 l0[i].f4 l0[i].f5 (rightB l0[i]) W (shaped_right _ nk hnk hnk2))
      have HF : Aside0 (rightB l0[i] = false → chkN l0 m t = 50) := ⟨fun hf => chkN_bad (by rw [HB123.out, all_false' hlt hf]; rfl)⟩
      have HT : Aside0 (rightB l0[i] = true → (l0.take (i + 1)).all rightB = true) := ⟨fun hf => all_next' hlt hf HAi.out⟩
      clear hrd hnk hnk2
      generalize hkx : l0[i] = kx at *
      clear hkx
      cases hr : rightB kx
      · rw [hr] at HS HF
        have HF1 := Aside0.mk (HF.out rfl)
        clear hr HF HT
        go_wp2_with (first | (go_at_call 56; refine (HS.out _).mono ?_; rintro e w1 ⟨rfl, hb⟩; have HB1 := Aside0.mk (bstep HBw.out hb); clear hb))
        go_ret
        exact ⟨by rw [HF1.out]; rfl, HB1.out⟩
      · rw [hr] at HS HT
        have HT1 := Aside0.mk (HT.out rfl)
        clear hr HF HT
        go_wp2_with (first | (go_at_call 56; refine (HS.out _).mono ?_; rintro e w1 ⟨rfl, hb⟩; have HB1 := Aside0.mk (HBi.out.trans (hb.mono (by have := HBi.out.size; simp at this; omega))); clear hb))
        go_roundw
        case rel => exact ⟨i + 1, by go_num, HLT.out, HT1, HB1⟩
        case measure => simp [intOf]; omega
    · have hge : i = l0.length := by omega
      subst hge
      have HA0 : Aside0 (l0.all rightB = true) := ⟨by have := HAi.out; rwa [List.take_length] at this⟩
      have HSm : Aside0 (∀ k ∈ effKeys m (modB m) l0, ∃ n : Nat, k.f4 = (n : Int) ∧ n < 1024) := ⟨eff_small HMN.out h4 (fun k hk => by
        obtain ⟨n, h1, h2⟩ := HKK.out k hk
        exact ⟨n, h1, right_small k n h1 h2 (List.all_eq_true.1 HA0.out k hk)⟩)⟩
      have HL16 : Aside0 ((effKeys m (modB m) l0).length ≤ 16) := ⟨by unfold effKeys; split <;> simp; omega⟩
      obtain ⟨K, hK⟩ : ∃ K, effKeys m (modB m) l0 = K := ⟨_, rfl⟩
      rw [hK] at HE HSm HL16 HB123
      clear hK
      have hK16 := HL16.out
      have c0 := (hcell 0).trans (HC.out 0)
      have c1 := (hcell 1).trans (HC.out 1)
      have c2 := (hcell 2).trans (HC.out 2)
      have c3 := (hcell 3).trans (HC.out 3)
      have c4 := (hcell 4).trans (HC.out 4)
      have c5 := (hcell 5).trans (HC.out 5)
      have c6 := (hcell 6).trans (HC.out 6)
      have c7 := (hcell 7).trans (HC.out 7)
      have c8 := (hcell 8).trans (HC.out 8)
      have c9 := (hcell 9).trans (HC.out 9)
      have c10 := (hcell 10).trans (HC.out 10)
      have c11 := (hcell 11).trans (HC.out 11)
      have c12 := (hcell 12).trans (HC.out 12)
      have c13 := (hcell 13).trans (HC.out 13)
      have c14 := (hcell 14).trans (HC.out 14)
      have c15 := (hcell 15).trans (HC.out 15)
      have c16 := (hcell 16).trans (HC.out 16)
      have c17 := (hcell 17).trans (HC.out 17)
      clear hcell
      simp at c0 c1 c2 c3 c4 c5 c6 c7 c8 c9 c10 c11 c12 c13 c14 c15 c16 c17
      go_wp2_with (first | (go_at_call 13; refine (HE.out _ HBw.out).mono ?_; rintro e w1 ⟨v0, rfl, hR, hb⟩; have hs := Kd.R_slice hR; obtain ⟨A1, cc1, rfl⟩ := hs; have HR1 := Aside0.mk hR; have HB1 := Aside0.mk (bstep HBw.out hb); clear hR hb))
      clear c0 c1 c2 c3 c4 c5 c6 c7 c8 c9 c10 c11 c12 c13 c14 c15 c16 c17
      go_loopw [6] (fun v6 wr2 => ∃ i : Nat, v6 = .int .i64 i ∧ i ≤ K.length ∧ Aside0 ((K.take i).all (fun k => togB k.f4.toNat) = true) ∧ Aside0 (Below w1.heap.size w1 wr2)) (fun v _ => K.length - (intOf v).toNat)
      case atStart => exact ⟨0, rfl, Nat.zero_le _, ⟨rfl⟩, ⟨Below.refl _ _⟩⟩
      case round =>
        obtain ⟨i, rfl, hi, HTi, HB2⟩ := hrel
        by_cases hlt : i < K.length
        · have HLT := Aside0.mk hlt
          have hC := (Kd.R_reads' (Kd.R_below HR1.out HB2.out)).2.2
          obtain ⟨ad, e, x0, x1, x2, x3, x4, x5⟩ := at_T33 hC (i : Int) (by omega) (by omega)
          subst e
          have hrd : rd_T33 K (i : Int) = K[i] := by simp [rd_T33, hlt]
          rw [hrd] at x4
          simp only [Int.toNat_natCast] at x4
          clear x0 x1 x2 x3 x5 hC hrd
          obtain ⟨nk, hnk, hnk2⟩ := HSm.out _ (List.getElem_mem hlt)
          have HG := Aside0.mk (fun W => millref5_goTogether.calls 5 (nk : Int) (togB nk) W (together_ref nk hnk2))
          have htn : togB K[i].f4.toNat = togB nk := by rw [hnk]; rfl
          have HF : Aside0 (togB nk = false → chkN l0 m t = 50) := ⟨fun hf => chkN_bad (by rw [HB123.out, all_false' (p := fun k : Ky => togB k.f4.toNat) hlt (by rw [htn]; exact hf)]; simp)⟩
          have HT : Aside0 (togB nk = true → (K.take (i + 1)).all (fun k => togB k.f4.toNat) = true) := ⟨fun hf => all_next' hlt (by show togB K[i].f4.toNat = true; rw [htn]; exact hf) HTi.out⟩
          rw [hnk] at x4
          clear hnk hnk2 htn
          cases hr : togB nk
          · rw [hr] at HG HF
            have HF1 := Aside0.mk (HF.out rfl)
            clear hr HF HT
            go_wp2_with (first | (go_at_call 57; refine (HG.out _).mono ?_; rintro e w3 ⟨rfl, ⟨nq, rfl⟩⟩))
            go_ret
            exact ⟨by rw [HF1.out]; rfl, pw_below_drewN (bstep HB1.out HB2.out) _⟩
          · rw [hr] at HG HT
            have HT1 := Aside0.mk (HT.out rfl)
            clear hr HF HT
            go_wp2_with (first | (go_at_call 57; refine (HG.out _).mono ?_; rintro e w3 ⟨rfl, ⟨nq, rfl⟩⟩))
            go_roundw
            case rel => exact ⟨i + 1, by go_num, HLT.out, HT1, ⟨pw_below_drewN HB2.out _⟩⟩
            case measure => simp [intOf]; omega
        · have hge : i = K.length := by omega
          subst hge
          have HG0 : Aside0 (chkN l0 m t = 0) := ⟨chkN_good (by rw [HB123.out, HA0.out]; have := HTi.out; rw [List.take_length] at this; rw [this]; rfl)⟩
          go_wp2
          go_ret
          exact ⟨by rw [HG0.out]; rfl, bstep HB1.out HB2.out⟩
end Go.Proofs.YtnnoegjgaelafaaDoor.Pr
namespace Go.Proofs.YtnnoegjgaelafaaDoor.Pr
open Go.RowKit Go.Proofs.YtnnoegjgaelafaaDoorW.PrintWords Go.Proofs.YtnnoegjgaelafaaDoorW.PrintLast
set_option linter.unusedVariables false
set_option linter.unusedSimpArgs false

theorem OrdW.below {w w1 : World} {g : Nat} {K : List Ky} {t : Int} {last turned : Bool} (h : OrdW w g K t last turned) (hb : Below w.heap.size w w1) : OrdW w1 g K t last turned := by
  obtain ⟨v, cols, h1, h3, h4⟩ := h
  exact ⟨v, cols, (hb.block g (Array.getElem?_eq_some_iff.1 h1).1).trans h1, Kd.R_below h3 hb, h4⟩
/-- An order of these options stands at g. -/
def Made (w : World) (l0 : List Ky) (m t : Int) (st un : Bool) (g : Nat) (w' : World) : Prop :=
  OrdW w' g (effKeys m (modB m) l0) t (!st && !un) (bits .and .u16 m 512 != 0) ∧ w.heap.size < g ∧ Below w.heap.size w w'
def NewPost (w : World) (l0 : List Ky) (m t : Int) (st un : Bool) (e : Ending) (w' : World) : Prop :=
  (chkB l0 m t = false ∧ NewBad w e w') ∨ (chkB l0 m t = true ∧ ∃ g, e = .returned (.tuple #[.pointer (some ⟨g, 0, none⟩), .int .i64 0]) ∧ Made w l0 m t st un g w')
theorem chk_false1 {l0 : List Ky} {m t : Int} (h : 16 < l0.length ∨ t < -1 ∨ 255 < t ∨ 1024 ≤ m) : chkB l0 m t = false := by
  unfold chkB
  rcases h with h | h | h | h
  · rw [decide_eq_false (by omega : ¬ l0.length ≤ 16)]; rfl
  · rw [decide_eq_false (by omega : ¬ -1 ≤ t)]; simp
  · rw [decide_eq_false (by omega : ¬ t ≤ 255)]; simp
  · rw [decide_eq_false (by omega : ¬ m < 1024)]; simp
theorem new_calls (A0 : Option Addr) (c0 : Nat) (l0 : List Ky) (m t : Int) (st un : Bool) (r : Rest) (w : World) (hr0 : Kd.C k33 w A0 l0.length l0) (hc0 : l0.length ≤ c0) (hl : l0.length ≤ 1000000) (mn : Nat) (hm : m = (mn : Int)) (hm2 : mn < 65536) (hk : ∀ k ∈ l0, ∃ n : Nat, k.f4 = (n : Int) ∧ n < 65536) :
    Calls Tryd.prog 29 #[.agg (optVal (.slice A0 l0.length c0) m t st un r)] w (NewPost w l0 m t st un) := by
  by_cases h1 : 16 < l0.length
  · exact (new_bad1 A0 l0.length c0 m t st un r w h1 (by omega)).mono (fun e w' h => .inl ⟨chk_false1 (.inl h1), h⟩)
  by_cases h2 : t < -1
  · exact (new_bad2 A0 l0.length c0 m t st un r w (by omega) h2).mono (fun e w' h => .inl ⟨chk_false1 (.inr (.inl h2)), h⟩)
  by_cases h3 : 255 < t
  · exact (new_bad3 A0 l0.length c0 m t st un r w (by omega) h3).mono (fun e w' h => .inl ⟨chk_false1 (.inr (.inr (.inl h3))), h⟩)
  have ha : (bits .andNot .u16 m 1023 == 0) = decide (mn < 1024) := by rw [hm]; exact and_small mn hm2
  by_cases h4 : 1024 ≤ mn
  · rw [decide_eq_false (by omega : ¬ mn < 1024)] at ha
    exact (new_bad4 A0 l0.length c0 m t st un r w (by omega) (by omega) (by omega) (by simp only [bne, ha]; rfl)).mono (fun e w' h => .inl ⟨chk_false1 (.inr (.inr (.inr (by omega)))), h⟩)
  rw [decide_eq_true (by omega : mn < 1024)] at ha
  have hb : (bits .andNot .u16 m 1023 != 0) = false := by simp only [bne, ha]; rfl
  have hchk : chkB l0 m t = (l0.all rightB && (effKeys m (modB m) l0).all (fun k => togB k.f4.toNat)) := by
    unfold chkB
    rw [decide_eq_true (by omega : l0.length ≤ 16), decide_eq_true (by omega : -1 ≤ t), decide_eq_true (by omega : t ≤ 255), decide_eq_true (by omega : m < 1024)]; simp
  cases hall : l0.all rightB with
  | false =>
    have hx : ∃ k ∈ l0, rightB k = false := by
      obtain ⟨k, hk1, hk2⟩ := List.all_eq_false.1 hall
      exact ⟨k, hk1, by simpa using hk2⟩
    exact (new_keys A0 c0 l0 m t st un r w hr0 hc0 (by omega) (by omega) (by omega) hb hx).mono (fun e w' h => .inl ⟨by rw [hchk, hall]; rfl, h⟩)
  | true =>
    have hgood := List.all_eq_true.1 hall
    have hsm : ∀ k ∈ l0, ∃ n : Nat, k.f4 = (n : Int) ∧ n < 1024 := fun k hk1 => by
      obtain ⟨n, e1, e2⟩ := hk k hk1
      exact ⟨n, e1, right_small k n e1 e2 (hgood k hk1)⟩
    have hlen : (effKeys m (modB m) l0).length = max 1 l0.length := by
      unfold effKeys; split
      · rename_i h; subst h; rfl
      · rename_i h; have := List.length_pos_iff.2 h; simp; omega
    refine (new_main A0 c0 l0 m t st un r w hr0 hc0 (by omega) (by omega) (by omega) hb hgood (effKeys m (modB m) l0) ⟨rfl⟩ (by omega) (by omega) (eff_small hm (by omega) hsm)).mono ?_
    rintro e w' (⟨ha, hb⟩ | ⟨ha, g, he, ho, hg, hB⟩)
    · exact .inl ⟨by rw [hchk, hall, ha]; rfl, hb⟩
    · exact .inr ⟨by rw [hchk, hall, ha]; rfl, g, he, ho, hg, hB⟩
theorem check_calls (A0 : Option Addr) (c0 : Nat) (l0 : List Ky) (m t : Int) (st un : Bool) (r : Rest) (w : World) (hr0 : Kd.C k33 w A0 l0.length l0) (hc0 : l0.length ≤ c0) (hl : l0.length ≤ 1000000) (mn : Nat) (hm : m = (mn : Int)) (hm2 : mn < 65536) (hk : ∀ k ∈ l0, ∃ n : Nat, k.f4 = (n : Int) ∧ n < 65536) :
    Calls Tryd.prog 31 #[.agg (optVal (.slice A0 l0.length c0) m t st un r)] w (ChkPost w (chkN l0 m t)) := by
  by_cases h : 16 < l0.length ∨ t < -1 ∨ 255 < t ∨ 1024 ≤ m
  · rw [chkN_bad (chk_false1 h)]
    exact check_bad A0 c0 l0 m t st un r w hl (by rw [IntKind.wrap_i64]; omega) h
  · exact check_main A0 c0 l0 m t st un r w hr0 hc0 mn hm hk (by omega) (by omega) (by omega) (by omega)
def OrddPost (w : World) (l0 : List Ky) (m t : Int) (st un : Bool) (e : Ending) (w' : World) : Prop :=
  (chkB l0 m t = false ∧ e = .returned (.tuple #[.pointer none, .bool true]) ∧ Below w.heap.size w w') ∨ (chkB l0 m t = true ∧ ∃ g, e = .returned (.tuple #[.pointer (some ⟨g, 0, none⟩), .bool true]) ∧ Made w l0 m t st un g w')
end Go.Proofs.YtnnoegjgaelafaaDoor.Pr
namespace Go.Proofs.YtnnoegjgaelafaaDoor.Pr
open Go.RowKit Go.Proofs.YtnnoegjgaelafaaDoorW.PrintWords Go.Proofs.YtnnoegjgaelafaaDoorW.PrintLast
set_option linter.unusedVariables false
set_option linter.unusedSimpArgs false

/-- A struct of options is boxed, whatever its cells. -/
theorem box_opts (a : Act) (o : Oper) (x : Operand) (ho : o.op = .box 28 x) (cs : Array Value) (hx : a.eval x = .agg cs) (W : World) :
    (execOp a.eval o).run Tryd.prog W = .ok (.value (.pointer (some ⟨W.heap.size, 0, none⟩))) (W.alloc (.cells cs 28 (0, 0))) := by
  unfold execOp
  simp only [ho, hx]
  go_simp
  try rfl
theorem opt_size (A : Option Addr) (n c : Nat) (m t : Int) (st un : Bool) (r : Rest) : (Tryd.prog.info? 28).map (·.size) = some (optVal (.slice A n c) m t st un r).size := by
  have h : (Tryd.prog.info? 28).map (·.size) = some 18 := by kernel_rfl
  exact h
end Go.Proofs.YtnnoegjgaelafaaDoor.Pr
