/- What the document's Check answers. -/
import Derived.Test.YtnnoegjgaelafaaDoorReff
namespace Go.Proofs.YtnnoegjgaelafaaDoor.Pr
open Go.RowKit Go.Proofs.YtnnoegjgaelafaaDoorW.PrintWords Go.Proofs.YtnnoegjgaelafaaDoorW.PrintLast
set_option linter.unusedVariables false
set_option linter.unusedSimpArgs false

/-- Are the options' numbers, keys and modifiers right? -/
def chkB (l0 : List Ky) (m t : Int) : Bool := decide (l0.length ≤ 16) && decide (-1 ≤ t) && decide (t ≤ 255) && decide (m < 1024) && l0.all rightB && (effKeys m (modB m) l0).all (fun k => togB k.f4.toNat)
def chkN (l0 : List Ky) (m t : Int) : Int := if chkB l0 m t = true then 0 else 50
theorem chkN_bad {l0 : List Ky} {m t : Int} (h : chkB l0 m t = false) : chkN l0 m t = 50 := by unfold chkN; rw [h]; rfl
theorem chkN_good {l0 : List Ky} {m t : Int} (h : chkB l0 m t = true) : chkN l0 m t = 0 := by unfold chkN; rw [h]; rfl
theorem all_false' {α : Type} {p : α → Bool} {l : List α} {i : Nat} (h : i < l.length) (hf : p l[i] = false) : l.all p = false := by
  cases hq : l.all p with
  | false => rfl
  | true => have := List.all_eq_true.1 hq _ (List.getElem_mem h); rw [hf] at this; cases this
theorem all_next' {α : Type} {p : α → Bool} {l : List α} {i : Nat} (h : i < l.length) (hf : p l[i] = true) (ha : (l.take i).all p = true) : (l.take (i + 1)).all p = true := by
  rw [← List.take_append_getElem h, List.all_append, ha]; simp [hf]
def ChkPost (w : World) (n : Int) (e : Ending) (w' : World) : Prop := e = .returned (.int .i64 n) ∧ Below w.heap.size w w'
/-- Modifiers of the effective keys are small. -/
theorem eff_small {l0 : List Ky} {m : Int} {mn : Nat} (hm : m = (mn : Int)) (hm2 : mn < 1024) (hs : ∀ k ∈ l0, ∃ n : Nat, k.f4 = (n : Int) ∧ n < 1024) : ∀ k ∈ effKeys m (modB m) l0, ∃ n : Nat, k.f4 = (n : Int) ∧ n < 1024 := by
  intro k hk
  unfold effKeys at hk
  split at hk
  · simp at hk; subst hk; exact ⟨mn, hm, hm2⟩
  · obtain ⟨k0, hk0, rfl⟩ := List.mem_map.1 hk
    unfold effKey
    split
    · exact ⟨mn, hm, hm2⟩
    · exact hs _ hk0
set_option maxHeartbeats 8000000 in
set_option maxRecDepth 100000 in
theorem check_bad (A0 : Option Addr) (c0 : Nat) (l0 : List Ky) (m t : Int) (st un : Bool) (r : Rest) (w : World) (hl : l0.length ≤ 1000000) (hw : IntKind.i64.wrap m = m)
    (hb : 16 < l0.length ∨ t < -1 ∨ 255 < t ∨ 1024 ≤ m) :
    Calls Tryd.prog 31 #[.agg (optVal (.slice A0 l0.length c0) m t st un r)] w (ChkPost w 50) := by
  have hu := Tryd.underlying28
  unfold optVal
  by_cases h1 : 16 < l0.length
  · go_enter Tryd.func31, Tryd.ntmps31
    go_wp2
    go_ret
    exact ⟨rfl, (Below.refl _ _).alloc (Nat.le_refl _) _⟩
  by_cases h2 : t < -1
  · have h1' : ¬ ((l0.length : Int) > 16) := by omega
    go_enter Tryd.func31, Tryd.ntmps31
    go_wp2
    go_ret
    exact ⟨rfl, (Below.refl _ _).alloc (Nat.le_refl _) _⟩
  by_cases h3 : t > 255
  · have h1' : ¬ ((l0.length : Int) > 16) := by omega
    go_enter Tryd.func31, Tryd.ntmps31
    go_wp2
    go_ret
    exact ⟨rfl, (Below.refl _ _).alloc (Nat.le_refl _) _⟩
  · have h1' : ¬ ((l0.length : Int) > 16) := by omega
    have h4 : m ≥ 1024 := by omega
    clear hb
    go_enter Tryd.func31, Tryd.ntmps31
    go_wp2
    go_ret
    exact ⟨rfl, (Below.refl _ _).alloc (Nat.le_refl _) _⟩
set_option maxHeartbeats 8000000 in
set_option maxRecDepth 100000 in
theorem check_main (A0 : Option Addr) (c0 : Nat) (l0 : List Ky) (m t : Int) (st un : Bool) (r : Rest) (w : World) (hr0 : Kd.C k33 w A0 l0.length l0) (hc0 : l0.length ≤ c0) (mn : Nat) (hm : m = (mn : Int)) (hk : ∀ k ∈ l0, ∃ n : Nat, k.f4 = (n : Int) ∧ n < 65536)
    (h1 : l0.length ≤ 16) (h2 : -1 ≤ t) (h3 : t ≤ 255) (h4 : mn < 1024) :
    Calls Tryd.prog 31 #[.agg (optVal (.slice A0 l0.length c0) m t st un r)] w (ChkPost w (chkN l0 m t)) := by
  have hu := Tryd.underlying28
  have hu2 := Tryd.underlying33
  have HM4 : Aside0 (m < 1024) := ⟨by omega⟩
  have hw : IntKind.i64.wrap m = m := by rw [IntKind.wrap_i64]; omega
  have h1' : ¬ ((l0.length : Int) > 16) := by omega
  have h2' : ¬ t < -1 := by omega
  have h3' : ¬ t > 255 := by omega
  have h4' : ¬ m ≥ 1024 := by omega
  have HR0 := Aside0.mk hr0
  have HMN := Aside0.mk hm
  have HE := Aside0.mk (fun (W : World) (hb : Below w.heap.size w W) => reff_calls A0 c0 l0 m t st un r W (Kd.C_below hr0 hb) hc0 (by omega) mn hm h4)
  have HKK := Aside0.mk hk
  have HB123 : Aside0 (chkB l0 m t = (l0.all rightB && (effKeys m (modB m) l0).all (fun k => togB k.f4.toNat))) := ⟨by
    unfold chkB
    rw [decide_eq_true h1, decide_eq_true h2, decide_eq_true h3, decide_eq_true HM4.out]; simp⟩
  clear hr0 hm hk
  unfold optVal at HE ⊢
  go_enter Tryd.func31, Tryd.ntmps31
  go_wp2
  obtain ⟨box, hbox⟩ : ∃ o : Obj, o = .cells #[.slice A0 l0.length c0, .int .u16 m, .int .i64 t, .bool st, .bool un, .bool r.r5, .bool r.r6, .int .u8 r.r7, .string r.r8, .bool r.r9, .int .i64 r.r10, .int .i64 r.r11, .int .i64 r.r12, .int .i64 r.r13, .string r.r14, .bool r.r15, .string r.r16, r.r17] 28 := ⟨_, rfl⟩
  have HC : Aside0 (∀ j : Nat, (w.alloc box).cell? ⟨w.heap.size, j, none⟩ = #[.slice A0 l0.length c0, .int .u16 m, .int .i64 t, .bool st, .bool un, .bool r.r5, .bool r.r6, .int .u8 r.r7, .string r.r8, .bool r.r9, .int .i64 r.r10, .int .i64 r.r11, .int .i64 r.r12, .int .i64 r.r13, .string r.r14, .bool r.r15, .string r.r16, r.r17][j]?) := ⟨fun j => by
    unfold World.cell?
    rw [heap_alloc_new, hbox]
    rfl⟩
  rw [← hbox]
  clear hbox
  go_loopw [3] (fun v3 wr => ∃ i : Nat, v3 = .int .i64 i ∧ i ≤ l0.length ∧ Aside0 ((l0.take i).all rightB = true) ∧ Aside0 (Below (w.heap.size + 1) (w.alloc box) wr)) (fun v _ => l0.length - (intOf v).toNat)
  case atStart => exact ⟨0, rfl, Nat.zero_le _, ⟨rfl⟩, ⟨Below.refl _ _⟩⟩
  case round =>
    obtain ⟨i, rfl, hi, HAi, HBi⟩ := hrel
    have hcell : ∀ j : Nat, wr.cell? ⟨w.heap.size, j, none⟩ = (w.alloc box).cell? ⟨w.heap.size, j, none⟩ := fun j => HBi.out.cell (p := ⟨w.heap.size, j, none⟩) (Nat.lt_succ_self _)
    have hk0 := (hcell 0).trans (HC.out 0)
    simp at hk0
    have HBw : Aside0 (Below w.heap.size w wr) := ⟨((Below.refl _ _).alloc (Nat.le_refl _) _).trans (HBi.out.mono (Nat.le_succ _))⟩
    by_cases hlt : i < l0.length
    · clear hcell
      have HLT := Aside0.mk hlt
      obtain ⟨ad, e, x0, x1, x2, x3, x4, x5⟩ := at_T33 (Kd.C_below HR0.out HBw.out) (i : Int) (by omega) (by omega)
      subst e
      have hrd : rd_T33 l0 (i : Int) = l0[i] := by simp [rd_T33, hlt]
      rw [hrd] at x0 x1 x2 x3 x4 x5
      simp only [Int.toNat_natCast] at x0 x1 x2 x3 x4 x5
      obtain ⟨nk, hnk, hnk2⟩ := HKK.out _ (List.getElem_mem hlt)
      have HS := Aside0.mk (fun W => millref5_shaped.calls 3 l0[i].f0 l0[i].f1 l0[i].f2 l0[i].f3 l0[i].f4 l0[i].f5 (rightB l0[i]) W (shaped_right _ nk hnk hnk2))
      have HF : Aside0 (rightB l0[i] = false → chkN l0 m t = 50) := ⟨fun hf => chkN_bad (by rw [HB123.out, all_false' hlt hf]; rfl)⟩
      have HT : Aside0 (rightB l0[i] = true → (l0.take (i + 1)).all rightB = true) := ⟨fun hf => all_next' hlt hf HAi.out⟩
      clear hrd hnk hnk2
      generalize hkx : l0[i] = kx at *
      clear hkx
      cases hr : rightB kx
      · rw [hr] at HS HF
        have HF1 := Aside0.mk (HF.out rfl)
        clear hr HF HT
        go_wp2_with (first | (go_at_call 56; refine (HS.out _).mono ?_; rintro e w1 ⟨rfl, hb⟩; have HB1 := Aside0.mk (bstep HBw.out hb); clear hb))
        go_ret
        exact ⟨by rw [HF1.out]; rfl, HB1.out⟩
      · rw [hr] at HS HT
        have HT1 := Aside0.mk (HT.out rfl)
        clear hr HF HT
        go_wp2_with (first | (go_at_call 56; refine (HS.out _).mono ?_; rintro e w1 ⟨rfl, hb⟩; have HB1 := Aside0.mk (HBi.out.trans (hb.mono (by have := HBi.out.size; simp at this; omega))); clear hb))
        go_roundw
        case rel => exact ⟨i + 1, by go_num, HLT.out, HT1, HB1⟩
        case measure => simp [intOf]; omega
    · have hge : i = l0.length := by omega
      subst hge
      have HA0 : Aside0 (l0.all rightB = true) := ⟨by have := HAi.out; rwa [List.take_length] at this⟩
      have HSm : Aside0 (∀ k ∈ effKeys m (modB m) l0, ∃ n : Nat, k.f4 = (n : Int) ∧ n < 1024) := ⟨eff_small HMN.out h4 (fun k hk => by
        obtain ⟨n, h1, h2⟩ := HKK.out k hk
        exact ⟨n, h1, right_small k n h1 h2 (List.all_eq_true.1 HA0.out k hk)⟩)⟩
      have HL16 : Aside0 ((effKeys m (modB m) l0).length ≤ 16) := ⟨by unfold effKeys; split <;> simp; omega⟩
      obtain ⟨K, hK⟩ : ∃ K, effKeys m (modB m) l0 = K := ⟨_, rfl⟩
      rw [hK] at HE HSm HL16 HB123
      clear hK
      have hK16 := HL16.out
      have c0 := (hcell 0).trans (HC.out 0)
      have c1 := (hcell 1).trans (HC.out 1)
      have c2 := (hcell 2).trans (HC.out 2)
      have c3 := (hcell 3).trans (HC.out 3)
      have c4 := (hcell 4).trans (HC.out 4)
      have c5 := (hcell 5).trans (HC.out 5)
      have c6 := (hcell 6).trans (HC.out 6)
      have c7 := (hcell 7).trans (HC.out 7)
      have c8 := (hcell 8).trans (HC.out 8)
      have c9 := (hcell 9).trans (HC.out 9)
      have c10 := (hcell 10).trans (HC.out 10)
      have c11 := (hcell 11).trans (HC.out 11)
      have c12 := (hcell 12).trans (HC.out 12)
      have c13 := (hcell 13).trans (HC.out 13)
      have c14 := (hcell 14).trans (HC.out 14)
      have c15 := (hcell 15).trans (HC.out 15)
      have c16 := (hcell 16).trans (HC.out 16)
      have c17 := (hcell 17).trans (HC.out 17)
      clear hcell
      simp at c0 c1 c2 c3 c4 c5 c6 c7 c8 c9 c10 c11 c12 c13 c14 c15 c16 c17
      go_wp2_with (first | (go_at_call 13; refine (HE.out _ HBw.out).mono ?_; rintro e w1 ⟨v0, rfl, hR, hb⟩; have hs := Kd.R_slice hR; obtain ⟨A1, cc1, rfl⟩ := hs; have HR1 := Aside0.mk hR; have HB1 := Aside0.mk (bstep HBw.out hb); clear hR hb))
      clear c0 c1 c2 c3 c4 c5 c6 c7 c8 c9 c10 c11 c12 c13 c14 c15 c16 c17
      go_loopw [6] (fun v6 wr2 => ∃ i : Nat, v6 = .int .i64 i ∧ i ≤ K.length ∧ Aside0 ((K.take i).all (fun k => togB k.f4.toNat) = true) ∧ Aside0 (Below w1.heap.size w1 wr2)) (fun v _ => K.length - (intOf v).toNat)
      case atStart => exact ⟨0, rfl, Nat.zero_le _, ⟨rfl⟩, ⟨Below.refl _ _⟩⟩
      case round =>
        obtain ⟨i, rfl, hi, HTi, HB2⟩ := hrel
        by_cases hlt : i < K.length
        · have HLT := Aside0.mk hlt
          have hC := (Kd.R_reads' (Kd.R_below HR1.out HB2.out)).2.2
          obtain ⟨ad, e, x0, x1, x2, x3, x4, x5⟩ := at_T33 hC (i : Int) (by omega) (by omega)
          subst e
          have hrd : rd_T33 K (i : Int) = K[i] := by simp [rd_T33, hlt]
          rw [hrd] at x4
          simp only [Int.toNat_natCast] at x4
          clear x0 x1 x2 x3 x5 hC hrd
          obtain ⟨nk, hnk, hnk2⟩ := HSm.out _ (List.getElem_mem hlt)
          have HG := Aside0.mk (fun W => millref5_goTogether.calls 5 (nk : Int) (togB nk) W (together_ref nk hnk2))
          have htn : togB K[i].f4.toNat = togB nk := by rw [hnk]; rfl
          have HF : Aside0 (togB nk = false → chkN l0 m t = 50) := ⟨fun hf => chkN_bad (by rw [HB123.out, all_false' (p := fun k : Ky => togB k.f4.toNat) hlt (by rw [htn]; exact hf)]; simp)⟩
          have HT : Aside0 (togB nk = true → (K.take (i + 1)).all (fun k => togB k.f4.toNat) = true) := ⟨fun hf => all_next' hlt (by show togB K[i].f4.toNat = true; rw [htn]; exact hf) HTi.out⟩
          rw [hnk] at x4
          clear hnk hnk2 htn
          cases hr : togB nk
          · rw [hr] at HG HF
            have HF1 := Aside0.mk (HF.out rfl)
            clear hr HF HT
            go_wp2_with (first | (go_at_call 57; refine (HG.out _).mono ?_; rintro e w3 ⟨rfl, ⟨nq, rfl⟩⟩))
            go_ret
            exact ⟨by rw [HF1.out]; rfl, pw_below_drewN (bstep HB1.out HB2.out) _⟩
          · rw [hr] at HG HT
            have HT1 := Aside0.mk (HT.out rfl)
            clear hr HF HT
            go_wp2_with (first | (go_at_call 57; refine (HG.out _).mono ?_; rintro e w3 ⟨rfl, ⟨nq, rfl⟩⟩))
            go_roundw
            case rel => exact ⟨i + 1, by go_num, HLT.out, HT1, ⟨pw_below_drewN HB2.out _⟩⟩
            case measure => simp [intOf]; omega
        · have hge : i = K.length := by omega
          subst hge
          have HG0 : Aside0 (chkN l0 m t = 0) := ⟨chkN_good (by rw [HB123.out, HA0.out]; have := HTi.out; rw [List.take_length] at this; rw [this]; rfl)⟩
          go_wp2
          go_ret
          exact ⟨by rw [HG0.out]; rfl, bstep HB1.out HB2.out⟩
end Go.Proofs.YtnnoegjgaelafaaDoor.Pr
