/- The program's New of options whose keys are right: the order that it makes, or a refusal where modifiers don't go together. -/
import Derived.Test.YtnnoegjgaelafaaDoorQWholeAw
namespace Go.Proofs.YtnnoegjgaelafaaDoor.Pr
open Go.RowKit Go.Proofs.YtnnoegjgaelafaaDoorW.PrintWords Go.Proofs.YtnnoegjgaelafaaDoorW.PrintLast
set_option linter.unusedVariables false
set_option linter.unusedSimpArgs false

def kindI (k : Ky) : Int := bits .and .u16 k.f4 496
/-- The columns that New makes of keys. -/
def ColsOf (cols : List Col) (ks : List Ky) : Prop := cols.map (fun c => (c.key, c.filt, c.kind)) = ks.map (fun k => (k, bits .and .u16 (kindI k) 240 == 0, kindI k))
/-- An order in memory, at g. -/
def OrdW (w : World) (g : Nat) (K : List Ky) (t : Int) (last turned : Bool) : Prop :=
  ∃ v cols, w.heap[g]? = some (.cells #[v, .int .i64 t, .bool last, .bool turned] 69 (0, 0)) ∧ Kd.R kCol 71 w 0 (fun _ => True) v cols ∧ ColsOf cols K
/-- What New answers where the keys are right. -/
def NewRes (w : World) (K : List Ky) (t : Int) (last turned : Bool) (e : Ending) (w' : World) : Prop :=
  (K.all (fun k => togB k.f4.toNat) = false ∧ NewBad w e w') ∨
  (K.all (fun k => togB k.f4.toNat) = true ∧ ∃ g, e = .returned (.tuple #[.pointer (some ⟨g, 0, none⟩), .int .i64 0]) ∧ OrdW w' g K t last turned ∧ w.heap.size < g ∧ Below w.heap.size w w')
theorem aside_drew {B : Nat} {a w : World} (h : Aside0 (Below B a w)) : Aside0 (Below B a w.drew) := ⟨h.out.drew⟩
theorem keep_cell {W w1 : World} {p : Addr} {v : Value} (hb : Aside0 (Below W.heap.size W w1)) (hc : W.cell? p = some v) : w1.cell? p = some v := (hb.out.cell (World.block_lt_of_cell? W p hc)).trans hc
theorem keep_aside {a W w1 : World} (h : Aside0 (Below a.heap.size a W)) (hb : Aside0 (Below W.heap.size W w1)) : Aside0 (Below a.heap.size a w1) := ⟨bstep h.out hb.out⟩
/-- The options' box, and the order that is being made, at g; v: its columns. -/
structure OrdAt (w : World) (m t : Int) (st un : Bool) (ks : Value) (g : Nat) (wc : World) (v : Value) : Prop where
  below : Below w.heap.size w wc
  size : w.heap.size < wc.heap.size
  box0 : wc.cell? ⟨w.heap.size, 0, none⟩ = some ks
  box1 : wc.cell? ⟨w.heap.size, 1, none⟩ = some (.int .u16 m)
  gt : w.heap.size < g
  blk : wc.heap[g]? = some (.cells #[v, .int .i64 t, .bool (!st && !un), .bool (bits .and .u16 m 512 != 0)] 69 (0, 0))
theorem OrdAt.step {w : World} {m t : Int} {st un : Bool} {ks : Value} {g : Nat} {wc w2 : World} {v : Value} (h : OrdAt w m t st un ks g wc v) (hb : Below wc.heap.size wc w2) : OrdAt w m t st un ks g w2 v :=
  ⟨bstep h.below hb, Nat.lt_of_lt_of_le h.size hb.size, (hb.cell (p := ⟨w.heap.size, 0, none⟩) h.size).trans h.box0, (hb.cell (p := ⟨w.heap.size, 1, none⟩) h.size).trans h.box1, h.gt, (hb.block g (Array.getElem?_eq_some_iff.1 h.blk).1).trans h.blk⟩
theorem ord_first {w wr : World} {m t : Int} {st un : Bool} {ks : Value} {box : Obj} (hb : Below (w.heap.size + 1) (w.alloc box) wr) (h0 : wr.cell? ⟨w.heap.size, 0, none⟩ = some ks) (h1 : wr.cell? ⟨w.heap.size, 1, none⟩ = some (.int .u16 m)) :
    OrdAt w m t st un ks wr.heap.size (wr.alloc (.cells #[.slice none 0 0, .int .i64 t, .bool (!st && !un), .bool (bits .and .u16 m 512 != 0)] 69)) (.slice none 0 0) := by
  have hs := hb.size
  simp at hs
  have hlt : w.heap.size < wr.heap.size := by omega
  have hbl : Below w.heap.size w wr := ((Below.refl _ _).alloc (Nat.le_refl _) _).trans (hb.mono (Nat.le_succ _))
  have hnew : Below wr.heap.size wr (wr.alloc (.cells #[.slice none 0 0, .int .i64 t, .bool (!st && !un), .bool (bits .and .u16 m 512 != 0)] 69)) := (Below.refl _ _).alloc (Nat.le_refl _) _
  exact ⟨bstep hbl hnew, by simp; omega, (hnew.cell (p := ⟨w.heap.size, 0, none⟩) hlt).trans h0, (hnew.cell (p := ⟨w.heap.size, 1, none⟩) hlt).trans h1, hlt, heap_alloc_new _ _⟩
theorem below_drop {B : Nat} {a w : World} (h : Below (B + 1) a w) : Below B a w := h.mono (Nat.le_succ _)
theorem cell_far (w : World) (u : Value) (g i k j : Nat) (h : k ≠ g) : (w.setCell ⟨g, i, none⟩ u).cell? ⟨k, j, none⟩ = w.cell? ⟨k, j, none⟩ := by
  unfold World.cell?
  rw [Below.heap_setCell w ⟨g, i, none⟩ u k h]
theorem alloc_at (W : World) (o : Obj) (k : Nat) (h : k = W.heap.size) : (W.alloc o).heap[k]? = some o := by subst h; exact heap_alloc_new W o
theorem drew_alloc_ (W : World) (o : Obj) : (W.alloc o).drew = W.drew.alloc o := rfl
theorem alloc_drew_keep {W : World} {o : Obj} {p : Addr} {u : Value} (h : W.cell? p = some u) : (W.alloc o).drew.cell? p = some u := (World.cell?_alloc_lt _ _ _ (World.block_lt_of_cell? W p h)).trans h
theorem cell_grown {W w1 : World} {row : Option Nat} {k j : Nat} {u : Value} (hg : W.grownBy w1 row) (hne : some k ≠ row) (h : W.cell? ⟨k, j, none⟩ = some u) : w1.cell? ⟨k, j, none⟩ = some u := by
  have hlt := World.block_lt_of_cell? W _ h
  unfold World.cell? at h ⊢
  rw [hg.block k hlt hne]; exact h
theorem far_keep {W : World} {v u : Value} {g k i j : Nat} (hne : k ≠ g) (h : W.cell? ⟨k, j, none⟩ = some u) : (W.setCell ⟨g, i, none⟩ v).cell? ⟨k, j, none⟩ = some u := (cell_far W v g i k j hne).trans h
theorem bad_after {w wr : World} {o : Obj} (h : Below w.heap.size w wr) (nq : Nat) : Below w.heap.size w ((wr.alloc o).drewN nq) := pw_below_drewN (h.alloc h.size _) nq
theorem OrdAt.grow {w : World} {m t : Int} {st un : Bool} {ks : Value} {g : Nat} {wr W w1 : World} {v v1 : Value} (h : OrdAt w m t st un ks g wr v) (hb : Below wr.heap.size wr W) (h1 : Below (w.heap.size + 1) W w1) (hg : W.grownBy w1 v.ownBlock) (hne : some g ≠ v.ownBlock) :
    w1.heap[g]? = some (.cells #[v, .int .i64 t, .bool (!st && !un), .bool (bits .and .u16 m 512 != 0)] 69 (0, 0)) ∧ OrdAt w m t st un ks g (w1.setCell ⟨g, 0, none⟩ v1) v1 := by
  have hW := h.step hb
  have hk := blk_grown hW.blk hg hne
  have hs : W.heap.size ≤ w1.heap.size := h1.size
  have hgt := h.gt
  refine ⟨hk, (hW.below.trans (below_drop h1)).setCell (Nat.le_of_lt hgt) v1, ?_, ?_, ?_, hgt, ?_⟩
  · rw [World.size_setCell]; exact Nat.lt_of_lt_of_le hW.size hs
  · refine (cell_far w1 v1 g 0 w.heap.size 0 (by omega)).trans ?_
    exact (h1.cell (p := ⟨w.heap.size, 0, none⟩) (Nat.lt_succ_self _)).trans hW.box0
  · refine (cell_far w1 v1 g 0 w.heap.size 1 (by omega)).trans ?_
    exact (h1.cell (p := ⟨w.heap.size, 1, none⟩) (Nat.lt_succ_self _)).trans hW.box1
  · have := blk_set hk 0 v1
    simpa using this
theorem take_next {α : Type} (K : List α) (i : Nat) (h : i < K.length) : K.take (i + 1) = K.take i ++ [K[i]] := (List.take_append_getElem h).symm
theorem ColsOf.snoc {cols : List Col} {ks : List Ky} (h : ColsOf cols ks) (c : Col) (k : Ky) (h1 : c.key = k) (h2 : c.kind = kindI k) (h3 : c.filt = (bits .and .u16 (kindI k) 240 == 0)) : ColsOf (cols ++ [c]) (ks ++ [k]) := by
  unfold ColsOf at h ⊢
  simp [h, h1, h2, h3]
theorem all_false {K : List Ky} {i : Nat} {kx : Ky} {mk : Nat} (hlt : i < K.length) (hk : K[i] = kx) (hm : kx.f4 = (mk : Int)) (ht : togB mk = false) : K.all (fun k => togB k.f4.toNat) = false := by
  cases hq : K.all (fun k => togB k.f4.toNat) with
  | false => rfl
  | true =>
    have := List.all_eq_true.1 hq _ (List.getElem_mem hlt)
    rw [hk, hm] at this
    simp [ht] at this
theorem all_next {K : List Ky} {i : Nat} {kx : Ky} {mk : Nat} (hlt : i < K.length) (hk : K[i] = kx) (hm : kx.f4 = (mk : Int)) (ht : togB mk = true) (h : (K.take i).all (fun k => togB k.f4.toNat) = true) : (K.take (i + 1)).all (fun k => togB k.f4.toNat) = true := by
  rw [take_next K i hlt, List.all_append, h, hk]
  simp [hm, ht]
set_option maxHeartbeats 8000000 in
set_option maxRecDepth 100000 in
theorem new_main (A0 : Option Addr) (c0 : Nat) (l0 : List Ky) (m t : Int) (st un : Bool) (r : Rest) (w : World) (hr0 : Kd.C k33 w A0 l0.length l0) (hc0 : l0.length ≤ c0) (h : l0.length ≤ 16) (h2 : t ≤ 255) (h3 : -1 ≤ t) (h4 : (bits .andNot .u16 m 1023 != 0) = false)
    (hgood : ∀ k ∈ l0, rightB k = true) (K : List Ky) (HKE : Aside0 (effKeys m (modB m) l0 = K)) (hKp : 0 < K.length) (hKl : K.length ≤ 16) (hKm : ∀ k ∈ K, ∃ n : Nat, k.f4 = (n : Int) ∧ n < 1024) :
    Calls Tryd.prog 29 #[.agg (optVal (.slice A0 l0.length c0) m t st un r)] w (NewRes w K t (!st && !un) (bits .and .u16 m 512 != 0)) := by
  have hu := Tryd.underlying28
  have hu2 := Tryd.underlying33
  have hu3 := Tryd.underlying69
  have HR0 := Aside0.mk hr0
  clear hr0
  unfold optVal
  go_enter Tryd.func29, Tryd.ntmps29
  go_wp2
  have hb1 : Below (w.heap.size + 1) (w.alloc (.cells #[.slice A0 l0.length c0, .int .u16 m, .int .i64 t, .bool st, .bool un, .bool r.r5, .bool r.r6, .int .u8 r.r7, .string r.r8, .bool r.r9, .int .i64 r.r10, .int .i64 r.r11, .int .i64 r.r12, .int .i64 r.r13, .string r.r14, .bool r.r15, .string r.r16, r.r17] 28)) (w.alloc (.cells #[.slice A0 l0.length c0, .int .u16 m, .int .i64 t, .bool st, .bool un, .bool r.r5, .bool r.r6, .int .u8 r.r7, .string r.r8, .bool r.r9, .int .i64 r.r10, .int .i64 r.r11, .int .i64 r.r12, .int .i64 r.r13, .string r.r14, .bool r.r15, .string r.r16, r.r17] 28)) := Below.refl _ _
  obtain ⟨box, hbox⟩ : ∃ o : Obj, o = .cells #[.slice A0 l0.length c0, .int .u16 m, .int .i64 t, .bool st, .bool un, .bool r.r5, .bool r.r6, .int .u8 r.r7, .string r.r8, .bool r.r9, .int .i64 r.r10, .int .i64 r.r11, .int .i64 r.r12, .int .i64 r.r13, .string r.r14, .bool r.r15, .string r.r16, r.r17] 28 := ⟨_, rfl⟩
  have hc : ∀ j : Nat, (w.alloc box).cell? ⟨w.heap.size, j, none⟩ = #[.slice A0 l0.length c0, .int .u16 m, .int .i64 t, .bool st, .bool un, .bool r.r5, .bool r.r6, .int .u8 r.r7, .string r.r8, .bool r.r9, .int .i64 r.r10, .int .i64 r.r11, .int .i64 r.r12, .int .i64 r.r13, .string r.r14, .bool r.r15, .string r.r16, r.r17][j]? := fun j => by
    unfold World.cell?
    rw [heap_alloc_new, hbox]
    rfl
  have hk0 := hc 0
  have hk1 := hc 1
  have hk2 := hc 2
  have hk3 := hc 3
  have hk4 := hc 4
  rw [← hbox] at hb1
  rw [← hbox]
  simp at hk0 hk1 hk2 hk3 hk4
  have HB1 := Aside0.mk hb1
  have H0 := Aside0.mk hk0
  have H1 := Aside0.mk hk1
  have H2 := Aside0.mk hk2
  have H3 := Aside0.mk hk3
  have H4 := Aside0.mk hk4
  clear hb1 hk0 hk1 hk2 hk3 hk4 hbox hc
  go_loopw [33] (fun v wr => ∃ i : Nat, v = .int .i64 i ∧ i ≤ l0.length ∧ Aside0 (Below (w.heap.size + 1) (w.alloc box) wr)) (fun v _ => l0.length - (intOf v).toNat)
  case atStart => exact ⟨0, rfl, Nat.zero_le _, HB1⟩
  case round =>
    obtain ⟨i, rfl, hi, HB⟩ := hrel
    by_cases hlt : i < l0.length
    · have HLT := Aside0.mk hlt
      obtain ⟨ad, e, x0, x1, x2, x3, x4, x5⟩ := at_T33 (Kd.C_below HR0.out (((Below.refl _ _).alloc (Nat.le_refl _) _).trans (HB.out.mono (Nat.le_succ _)))) (i : Int) (by omega) (by omega)
      subst e
      have hrd : rd_T33 l0 (i : Int) = l0[i] := by simp [rd_T33, hlt]
      rw [hrd] at x0 x1 x2 x3 x4 x5
      simp only [Int.toNat_natCast] at x0 x1 x2 x3 x4 x5
      have HC := Aside0.mk (fun W => collate_right.calls l0[i].f0 l0[i].f1 l0[i].f2 l0[i].f3 l0[i].f4 l0[i].f5 (rightB l0[i]) W (right_some l0[i]))
      rw [hgood _ (List.getElem_mem hlt)] at HC
      clear hrd
      generalize hkx : l0[i] = kx at *
      clear hkx
      go_wp2_with fail
      refine (HC.out _).mono ?_
      rintro e w1 ⟨rfl, hb1⟩
      have HB1 := Aside0.mk ((HB.out.alloc (by have := HB.out.size; simp at this; exact this) (.cells #[.int .i64 kx.f0, .int .i64 kx.f1, .int .i64 kx.f2, .int .i64 kx.f3, .int .u16 kx.f4, .bool kx.f5] 33)).trans (hb1.mono (by have := HB.out.size; simp at this ⊢; omega)))
      clear hb1
      go_wp2
      go_roundw
      case rel => exact ⟨i + 1, by go_num, HLT.out, HB1⟩
      case measure => simp [intOf]; omega
    · have hk0 := (HB.out.cell (p := ⟨w.heap.size, 0, none⟩) (by simp)).trans H0.out
      have hk1 := (HB.out.cell (p := ⟨w.heap.size, 1, none⟩) (by simp)).trans H1.out
      have hk2 := (HB.out.cell (p := ⟨w.heap.size, 2, none⟩) (by simp)).trans H2.out
      have hk3 := (HB.out.cell (p := ⟨w.heap.size, 3, none⟩) (by simp)).trans H3.out
      have hk4 := (HB.out.cell (p := ⟨w.heap.size, 4, none⟩) (by simp)).trans H4.out
      have hge : i = l0.length := by omega
      subst hge
      go_upto_region 9 with (fail)
      go_cut [6] (fun v6 wc => ∃ g : Nat, v6 = .pointer (some ⟨g, 0, none⟩) ∧ Aside0 (OrdAt w m t st un (.slice A0 l0.length c0) g wc (.slice none 0 0)))
      case first =>
        have HOA := Aside0.mk (ord_first (st := st) (un := un) (m := m) (t := t) HB.out hk0 hk1)
        cases st <;> cases un
        all_goals
          go_wp2
          go_meet
          case rel => exact ⟨wr.heap.size, rfl, ⟨HOA.out⟩⟩
      case rest =>
        obtain ⟨g, rfl, HOA⟩ := hcut
        have hk0 := HOA.out.box0
        have hk1 := HOA.out.box1
        have HC0 := Aside0.mk (Kd.C_below HR0.out HOA.out.below)
        have HB0 := Aside0.mk (Below.refl wc.heap.size wc)
        have HBd := aside_drew HB0
        have hk0d : wc.drew.cell? ⟨w.heap.size, 0, none⟩ = some (.slice A0 l0.length c0) := hk0
        have hk1d : wc.drew.cell? ⟨w.heap.size, 1, none⟩ = some (.int .u16 m) := hk1
        go_wp2
        go_region_held3 (fun w' => w'.cell? ⟨w.heap.size, 0, none⟩ = some (.slice A0 l0.length c0) ∧ w'.cell? ⟨w.heap.size, 1, none⟩ = some (.int .u16 m) ∧ Aside0 (Below wc.heap.size wc w')) ((refine ⟨?_, ?_, ?_⟩ <;> first | assumption | exact aside_drew (by assumption) | exact keep_cell (by assumption) (by assumption) | exact keep_aside (by assumption) (by assumption) | (simp [*]; done)))
          (first
            | (go_at_call 51; refine (clone_keys A0 c0 l0 _ (by exact Kd.C_below HC0.out (Aside0.out (by assumption))) hc0 (by omega)).mono ?_; rintro e w1 ⟨v0, rfl, hR, hB⟩; have hq := Kd.R_reads hR; obtain ⟨A1, c1, rfl, hle, hC1⟩ := hq; have HC1 := Aside0.mk hC1; have HB1 := Aside0.mk hB; have HW1 := keep_aside HBd HB1; clear hC1 hB hR)
            | (go_at_call 50; refine (effective_any _ _ l0 m (-1) _ (Aside0.out (by assumption)) (by assumption) (by omega)).mono ?_; rintro e w2 ⟨v2, rfl, hR, hB⟩; rw [HKE.out] at hR; have hq2 := Kd.R_form hR hKp; obtain ⟨g2, cap2, rfl, hg2, _, _⟩ := hq2; have HG2 := Aside0.mk hg2; clear hg2; have HB2 := Aside0.mk hB; have HW2 := keep_aside HW1 HB2; have HR2 := Aside0.mk hR; have HK0 := Aside0.mk (keep_cell HB2 (keep_cell HB1 hk0d)); have HK1 := Aside0.mk (keep_cell HB2 (keep_cell HB1 hk1d)); clear hB hR))
        have HO2 := Aside0.mk (HOA.out.step HW2.out)
        have HR3 := Aside0.mk (Kd.R_lower HR2.out (base' := w.heap.size) (by have a := HOA.out.size; have b := HW1.out.size; omega))
        clear HB0 HBd HB1 HB2 HW1 HW2 HR2 HC1 hk0d hk1d HK0 HK1 hk0 hk1
        go_wp2
        go_loopw [65] (fun v65 wr => ∃ (i : Nat) (v : Value) (cols : List Col), v65 = .int .i64 i ∧ i ≤ K.length ∧ Aside0 (OrdAt w m t st un (.slice A0 l0.length c0) g wr v) ∧ Aside0 (Kd.R kCol 71 wr (w.heap.size + 1) (fun _ => True) v cols) ∧ Aside0 (ColsOf cols (K.take i)) ∧ Aside0 (Kd.R k33 33 wr w.heap.size (fun _ => True) (.slice (some ⟨g2, 0, none⟩) K.length cap2) K) ∧ Aside0 ((K.take i).all (fun k => togB k.f4.toNat) = true)) (fun v _ => K.length - (intOf v).toNat)
        case atStart => exact ⟨0, _, [], rfl, Nat.zero_le _, HO2, ⟨Kd.R_nil _ _ _ _ _⟩, ⟨rfl⟩, HR3, ⟨rfl⟩⟩
        case round =>
          obtain ⟨i, v, cols, rfl, hi, HOi, HRi, HCi, HKi, HAi⟩ := hrel
          by_cases hlt : i < K.length
          · have HLT := Aside0.mk hlt
            obtain ⟨_, _, hC⟩ := Kd.R_reads' HKi.out
            obtain ⟨ad, e, x0, x1, x2, x3, x4, x5⟩ := at_T33 hC (i : Int) (by omega) (by omega)
            obtain rfl := Option.some.inj e
            have hrd : rd_T33 K (i : Int) = K[i] := by simp [rd_T33, hlt]
            rw [hrd] at x0 x1 x2 x3 x4 x5
            simp only [add_plain, Int.toNat_natCast] at x0 x1 x2 x3 x4 x5
            obtain ⟨mk, hmk, hmk2⟩ := hKm _ (List.getElem_mem hlt)
            have HC := Aside0.mk (fun W => together_calls mk hmk2 W)
            clear hrd hC
            generalize hkx : K[i] = kx at *
            have HK := Aside0.mk hkx
            have HMK := Aside0.mk hmk
            rw [hmk] at x4
            clear hkx hmk
            cases htg : togB mk
            · rw [htg] at HC
              have HT := Aside0.mk htg
              clear htg
              go_wp2_with fail
              refine (HC.out _).mono ?_
              rintro e w3 ⟨rfl, ⟨nq, rfl⟩⟩
              go_wp2
              go_ret2
              refine .inl ⟨all_false HLT.out HK.out HMK.out HT.out, ?_⟩
              exact ⟨rfl, bad_after HOi.out.below nq⟩
            · rw [htg] at HC
              have HT := Aside0.mk htg
              clear htg
              go_wp2_with fail
              refine (HC.out _).mono ?_
              rintro e w3 ⟨rfl, ⟨nq, rfl⟩⟩
              have hcol := HOi.out.blk
              have hw0 : w.heap.size < wr.heap.size := HOi.out.size
              have hg1 : g < wr.heap.size := (Array.getElem?_eq_some_iff.1 hcol).1
              have hne1 : wr.heap.size ≠ g := by omega
              have hne2 : wr.heap.size + 1 ≠ g := by omega
              have hcg : wr.cell? ⟨g, 0, none⟩ = some v := by unfold World.cell?; rw [hcol]; rfl
              have hfg : wr.frozen? ⟨g, 0, none⟩ = false := blk_frozen hcol 0
              clear hcol
              go_wp2
              obtain ⟨W3, hW3⟩ : ∃ W3 : World, W3 = ((wr.alloc (.cells #[.int .i64 kx.f0, .int .i64 kx.f1, .int .i64 kx.f2, .int .i64 kx.f3, .int .u16 (mk : Int), .bool kx.f5] 33)).drewN nq).alloc (.cells #[.int .u16 (bits .and .u16 (mk : Int) 496)] 24) := ⟨_, rfl⟩
              rw [← hW3]
              have q0 : W3.cell? ⟨wr.heap.size, 0, none⟩ = some (.int .i64 kx.f0) := by rw [hW3]; go_simp
              have q1 : W3.cell? ⟨wr.heap.size, 1, none⟩ = some (.int .i64 kx.f1) := by rw [hW3]; go_simp
              have q2 : W3.cell? ⟨wr.heap.size, 2, none⟩ = some (.int .i64 kx.f2) := by rw [hW3]; go_simp
              have q3 : W3.cell? ⟨wr.heap.size, 3, none⟩ = some (.int .i64 kx.f3) := by rw [hW3]; go_simp
              have q4 : W3.cell? ⟨wr.heap.size, 4, none⟩ = some (.int .u16 (mk : Int)) := by rw [hW3]; go_simp
              have q5 : W3.cell? ⟨wr.heap.size, 5, none⟩ = some (.bool kx.f5) := by rw [hW3]; go_simp
              have q6 : W3.cell? ⟨wr.heap.size + 1, 0, none⟩ = some (.int .u16 (bits .and .u16 (mk : Int) 496)) := by rw [hW3]; go_simp
              have q7 : W3.cell? ⟨g, 0, none⟩ = some v := by rw [hW3]; go_simp
              have q8 : W3.frozen? ⟨g, 0, none⟩ = false := by rw [hW3]; go_simp
              have HBw : Aside0 (Below wr.heap.size wr W3) := ⟨by rw [hW3]; exact (pw_below_drewN ((Below.refl _ _).alloc (Nat.le_refl _) _) _).alloc (by simp) _⟩
              have HB1 : W3.heap[wr.heap.size + 1]? = some (.cells #[.int .u16 (bits .and .u16 (mk : Int) 496)] 24 (0, 0)) := by rw [hW3]; exact alloc_at _ _ _ (by simp)
              have HBk := Aside0.mk HB1
              have HS : Aside0 (wr.heap.size + 2 = W3.heap.size) := ⟨by rw [hW3]; simp⟩
              have HRw := Aside0.mk (Kd.R_below HRi.out HBw.out)
              have HKw := Aside0.mk (Kd.R_below HKi.out HBw.out)
              have HNg := Aside0.mk (Kd.R_ne HRi.out HOi.out.blk (by decide))
              have HNk : Aside0 (some (wr.heap.size + 1) ≠ v.ownBlock) := ⟨fun he => by have := Kd.R_lt HRi.out _ he.symm; omega⟩
              clear HB1 hW3
              have hlt3 : g < W3.heap.size := by have := HS.out; omega
              have HLC : Aside0 ((cols.length + 1) * 64 ≤ 140737488355328) := ⟨by have hh := congrArg List.length HCi.out; simp at hh; omega⟩
              have HNa : Aside0 (some wr.heap.size ≠ v.ownBlock) := ⟨fun he => by have := Kd.R_lt HRi.out _ he.symm; omega⟩
              refine wp_region_held_drew (S := fun w' => w'.cell? ⟨wr.heap.size, 0, none⟩ = some (.int .i64 kx.f0) ∧ w'.cell? ⟨wr.heap.size, 1, none⟩ = some (.int .i64 kx.f1) ∧ w'.cell? ⟨wr.heap.size, 2, none⟩ = some (.int .i64 kx.f2) ∧ w'.cell? ⟨wr.heap.size, 3, none⟩ = some (.int .i64 kx.f3) ∧ w'.cell? ⟨wr.heap.size, 4, none⟩ = some (.int .u16 (mk : Int)) ∧ w'.cell? ⟨wr.heap.size, 5, none⟩ = some (.bool kx.f5) ∧ w'.cell? ⟨wr.heap.size + 1, 0, none⟩ = some (.int .u16 (bits .and .u16 (mk : Int) 496))) (by kernel_rfl) ?_ (fun hHeld0 => ?_)
              · (try dsimp only); first | done | ((refine ⟨?_, ?_, ?_, ?_, ?_, ?_, ?_⟩ <;> first | assumption | exact far_keep (by assumption) (by assumption) | exact alloc_drew_keep (by assumption) | exact cell_grown (by assumption) (by assumption) (by assumption) | exact far_keep (by assumption) (by assumption) | (go_keep; done)))
              refine wpAnyH_take (i := 0) (oi := { dst := some 76, op := Op.move (Operand.tmp 6), type := 29, pos := "collate.go:96", after := #[], guard := none }) (v := ?_) rfl (by kernel_rfl) (by kernel_rfl) (by kernel_rfl) (fun _ _ _ h => h) (Or.inl ⟨by rfl, ?yields⟩) (by assumption) ?_
              case yields => (intro w hSw; (try dsimp only at hSw); go_simp; try with_reducible rfl)
              try simp only [Act.put, List.setIfInBounds_toArray, List.set_cons_zero, List.set_cons_succ]
              refine wpAnyH_take (i := 1) (oi := { dst := some 77, op := Op.move (Operand.tmp 6), type := 29, pos := "collate.go:96", after := #[], guard := none }) (v := ?_) rfl (by kernel_rfl) (by kernel_rfl) (by kernel_rfl) (fun _ _ _ h => h) (Or.inl ⟨by rfl, ?yields⟩) (by assumption) ?_
              case yields => (intro w hSw; (try dsimp only at hSw); go_simp; try with_reducible rfl)
              try simp only [Act.put, List.setIfInBounds_toArray, List.set_cons_zero, List.set_cons_succ]
              refine wpAnyH_take (i := 2) (oi := { dst := some 78, op := Op.nilCheck (Operand.tmp 77), type := 0, pos := "collate.go:96", after := #[{ on := 1, ground := Ground.data }], guard := none }) (v := ?_) rfl (by kernel_rfl) (by kernel_rfl) (by kernel_rfl) (fun _ _ _ h => h) (Or.inl ⟨by rfl, ?yields⟩) (by assumption) ?_
              case yields => (intro w hSw; (try dsimp only at hSw); go_simp; try with_reducible rfl)
              try simp only [Act.put, List.setIfInBounds_toArray, List.set_cons_zero, List.set_cons_succ]
              refine wpAnyH_take (i := 3) (oi := { dst := some 79, op := Op.fieldAddr 69 (Operand.tmp 78) 0, type := 0, pos := "collate.go:96", after := #[{ on := 2, ground := Ground.data }], guard := none }) (v := ?_) rfl (by kernel_rfl) (by kernel_rfl) (by kernel_rfl) (fun _ _ _ h => h) (Or.inl ⟨by rfl, ?yields⟩) (by assumption) ?_
              case yields => (intro w hSw; (try dsimp only at hSw); go_simp; try with_reducible rfl)
              try simp only [Act.put, List.setIfInBounds_toArray, List.set_cons_zero, List.set_cons_succ]
              refine wpAnyH_take (i := 5) (oi := { dst := some 81, op := Op.load 33 (Operand.tmp 8), type := 33, pos := "collate.go:96", after := #[], guard := none }) (v := ?_) rfl (by kernel_rfl) (by kernel_rfl) (by kernel_rfl) (fun _ _ _ h => h) (Or.inl ⟨by rfl, ?yields⟩) (by assumption) ?_
              case yields => (intro w hSw; (try dsimp only at hSw); go_simp; try with_reducible rfl)
              try simp only [Act.put, List.setIfInBounds_toArray, List.set_cons_zero, List.set_cons_succ]
              refine wpAnyH_take (i := 6) (oi := { dst := some 82, op := Op.load 24 (Operand.tmp 9), type := 24, pos := "collate.go:96", after := #[], guard := none }) (v := ?_) rfl (by kernel_rfl) (by kernel_rfl) (by kernel_rfl) (fun _ _ _ h => h) (Or.inl ⟨by rfl, ?yields⟩) (by assumption) ?_
              case yields => (intro w hSw; (try dsimp only at hSw); go_simp; try with_reducible rfl)
              try simp only [Act.put, List.setIfInBounds_toArray, List.set_cons_zero, List.set_cons_succ]
              refine wpAnyH_take (i := 7) (oi := { dst := some 83, op := Op.binOp BinOp.and 24 (Operand.tmp 82) (Operand.const (Value.int IntKind.u16 240)) 24, type := 24, pos := "collate.go:96", after := #[{ on := 6, ground := Ground.data }], guard := none }) (v := ?_) rfl (by kernel_rfl) (by kernel_rfl) (by kernel_rfl) (fun _ _ _ h => h) (Or.inl ⟨by rfl, ?yields⟩) (by assumption) ?_
              case yields => (intro w hSw; (try dsimp only at hSw); go_simp; try with_reducible rfl)
              try simp only [Act.put, List.setIfInBounds_toArray, List.set_cons_zero, List.set_cons_succ]
              refine wpAnyH_take (i := 8) (oi := { dst := some 84, op := Op.binOp BinOp.eql 24 (Operand.tmp 83) (Operand.const (Value.int IntKind.u16 0)) 24, type := 4, pos := "collate.go:96", after := #[{ on := 7, ground := Ground.data }], guard := none }) (v := ?_) rfl (by kernel_rfl) (by kernel_rfl) (by kernel_rfl) (fun _ _ _ h => h) (Or.inl ⟨by rfl, ?yields⟩) (by assumption) ?_
              case yields => (intro w hSw; (try dsimp only at hSw); go_simp; try with_reducible rfl)
              try simp only [Act.put, List.setIfInBounds_toArray, List.set_cons_zero, List.set_cons_succ]
              refine wpAnyH_ready (rs := [4, 9, 10]) (by kernel_rfl) (by simp) ?_
              refine AllReadyH.cons (o := { dst := some 80, op := Op.load 67 (Operand.tmp 79), type := 67, pos := "collate.go:96", after := #[{ on := 3, ground := Ground.data }], guard := none }) rfl (fun K hK => ?_) ?_
              · go_simp
                refine hK.out _ _ ?_ (fun hHeld1 => ?_)
                · (try dsimp only); first | done | ((refine ⟨?_, ?_, ?_, ?_, ?_, ?_, ?_⟩ <;> first | assumption | exact far_keep (by assumption) (by assumption) | exact alloc_drew_keep (by assumption) | exact cell_grown (by assumption) (by assumption) (by assumption) | exact far_keep (by assumption) (by assumption) | (go_keep; done)))
                clear hK K hHeld0
                try simp only [Act.put, List.setIfInBounds_toArray, List.set_cons_zero, List.set_cons_succ]
                refine wpAnyH_ready (rs := [9, 10]) (by kernel_rfl) (by simp) ?_
                refine AllReadyH.cons (o := { dst := some 85, op := Op.makeFunc (Fn.func 53) #[] #[Operand.tmp 9], type := 43, pos := "collate.go:96", after := #[], guard := none }) rfl (fun K hK => ?_) ?_
                · go_simp
                  refine hK.out _ _ ?_ (fun hHeld2 => ?_)
                  · (try dsimp only); first | done | ((refine ⟨?_, ?_, ?_, ?_, ?_, ?_, ?_⟩ <;> first | assumption | exact far_keep (by assumption) (by assumption) | exact alloc_drew_keep (by assumption) | exact cell_grown (by assumption) (by assumption) (by assumption) | exact far_keep (by assumption) (by assumption) | (go_keep; done)))
                  clear hK K hHeld1
                  try simp only [Act.put, List.setIfInBounds_toArray, List.set_cons_zero, List.set_cons_succ]
                  refine wpAnyH_ready (rs := [10]) (by kernel_rfl) (by simp) ?_
                  refine AllReadyH.cons (o := { dst := some 86, op := Op.makeFunc (Fn.func 55) #[] #[Operand.tmp 9], type := 42, pos := "collate.go:96", after := #[], guard := none }) rfl (fun K hK => ?_) ?_
                  · go_simp
                    refine hK.out _ _ ?_ (fun hHeld3 => ?_)
                    · (try dsimp only); first | done | ((refine ⟨?_, ?_, ?_, ?_, ?_, ?_, ?_⟩ <;> first | assumption | exact far_keep (by assumption) (by assumption) | exact alloc_drew_keep (by assumption) | exact cell_grown (by assumption) (by assumption) (by assumption) | exact far_keep (by assumption) (by assumption) | (go_keep; done)))
                    clear hK K hHeld2
                    try simp only [Act.put, List.setIfInBounds_toArray, List.set_cons_zero, List.set_cons_succ]
                    refine wpAnyH_take (i := 11) (oi := { dst := some 87, op := Op.build 71 #[(0, Operand.tmp 81), (1, Operand.tmp 84), (2, Operand.tmp 85), (3, Operand.tmp 86)], type := 71, pos := "collate.go:96", after := #[{ on := 5, ground := Ground.data }, { on := 8, ground := Ground.data }, { on := 9, ground := Ground.data }, { on := 10, ground := Ground.data }], guard := none }) (v := ?_) rfl (by kernel_rfl) (by kernel_rfl) (by kernel_rfl) (fun _ _ _ h => h) (Or.inl ⟨by rfl, ?yields⟩) (by assumption) ?_
                    case yields => (intro w hSw; (try dsimp only at hSw); go_simp; try with_reducible rfl)
                    try simp only [Act.put, List.setIfInBounds_toArray, List.set_cons_zero, List.set_cons_succ]
                    refine wpAnyH_ready (rs := [12]) (by kernel_rfl) (by simp) ?_
                    refine AllReadyH.cons (o := { dst := some 88, op := Op.buildSlice 67 1 #[(0, Operand.tmp 87)], type := 67, pos := "collate.go:96", after := #[{ on := 11, ground := Ground.data }], guard := none }) rfl (fun K hK => ?_) ?_
                    · go_simp
                      refine hK.out _ _ ?_ (fun hHeld4 => ?_)
                      · (try dsimp only); first | done | ((refine ⟨?_, ?_, ?_, ?_, ?_, ?_, ?_⟩ <;> first | assumption | exact far_keep (by assumption) (by assumption) | exact alloc_drew_keep (by assumption) | exact cell_grown (by assumption) (by assumption) (by assumption) | exact far_keep (by assumption) (by assumption) | (go_keep; done)))
                      clear hK K hHeld3
                      try simp only [Act.put, List.setIfInBounds_toArray, List.set_cons_zero, List.set_cons_succ]
                      refine wpAnyH_ready (rs := [13]) (by kernel_rfl) (by simp) ?_
                      refine AllReadyH.cons (o := { dst := some 89, op := Op.call { callee := Callee.builtin Builtin.append, args := #[Operand.tmp 80, Operand.tmp 88], argTypes := #[67, 67] }, type := 67, pos := "collate.go:96", after := #[{ on := 4, ground := Ground.data }, { on := 12, ground := Ground.data }], guard := none }) rfl (fun K hK => ?_) ?_
                      · ((rw [drew_alloc_]; refine Kd.R_append_step kCol (w.heap.size + 1) rfl (.tmp 80) (.tmp 88) 67 71 (.agg #[.int .i64 0, .int .i64 0, .int .i64 0, .int .i64 0, .int .u16 0, .bool false, .bool false, .nilFunc, .nilFunc]) 64 rfl Tryd.underlying67 infoCol rfl (by decide) (by omega) v cols ⟨kx, bits .and .u16 (bits .and .u16 (mk : Int) 496) 240 == 0, bits .and .u16 (mk : Int) 496, wr.heap.size + 1⟩ _ (fun _ => True) (fun k => k = wr.heap.size + 1) (by simp [Act.eval, Act.put]) (by simp [Act.eval, Act.put]) ⟨by simp [Col.cells, HMK.out], HBk.out, rfl, Nat.succ_le_succ (Nat.le_of_lt HOi.out.size)⟩ (by rintro k rfl; exact ⟨trivial, HNk.out⟩) (fun _ _ => trivial) (by first | exact HRw.out | exact Kd.R_drew HRw.out) (Below.refl _ _) (by have hh := HS.out; have hh2 := HOi.out.size; simp; omega) (HLC.out) (fun v1 w1 hR1 hB1 hG1 _ => ?_); have hs9 := Kd.R_slice hR1; obtain ⟨A9, c9, hv9⟩ := hs9; subst hv9; have HR1 := Aside0.mk hR1; have HG1 := Aside0.mk (HOi.out.grow (v1 := .slice A9 (cols ++ [(⟨kx, bits .and .u16 (bits .and .u16 (mk : Int) 496) 240 == 0, bits .and .u16 (mk : Int) 496, wr.heap.size + 1⟩ : Col)]).length c9) (by first | exact HBw.out | exact HBw.out.drew) hB1 hG1 HNg.out); have HK1 := Aside0.mk (Kd.R_over (by first | exact HKw.out | exact Kd.R_drew HKw.out) (by first | exact HRw.out | exact Kd.R_drew HRw.out) (by decide) hG1); have hcg1 := blk_cell HG1.out.1; have hfg1 := blk_frozen HG1.out.1 0; have hG9 := hG1; have hn1 := HNa.out; have hn2 := HNk.out; have y0 := cell_grown hG9 hn1 (W := W3.drew) q0; have y1 := cell_grown hG9 hn1 (W := W3.drew) q1; have y2 := cell_grown hG9 hn1 (W := W3.drew) q2; have y3 := cell_grown hG9 hn1 (W := W3.drew) q3; have y4 := cell_grown hG9 hn1 (W := W3.drew) q4; have y5 := cell_grown hG9 hn1 (W := W3.drew) q5; have y6 := cell_grown hG9 hn2 (W := W3.drew) q6; clear hR1 hB1 hG1))
                        refine hK.out _ _ ?_ (fun hHeld5 => ?_)
                        · (try dsimp only); first | done | ((refine ⟨?_, ?_, ?_, ?_, ?_, ?_, ?_⟩ <;> first | assumption | exact far_keep (by assumption) (by assumption) | exact alloc_drew_keep (by assumption) | exact cell_grown (by assumption) (by assumption) (by assumption) | exact far_keep (by assumption) (by assumption) | (go_keep; done)))
                        clear hK K hHeld4
                        try simp only [Act.put, List.setIfInBounds_toArray, List.set_cons_zero, List.set_cons_succ]
                        refine wpAnyH_take (i := 14) (oi := { dst := some 90, op := Op.nilCheck (Operand.tmp 76), type := 0, pos := "collate.go:96", after := #[{ on := 0, ground := Ground.data }, { on := 0, ground := Ground.phase }, { on := 1, ground := Ground.phase }, { on := 2, ground := Ground.phase }, { on := 3, ground := Ground.phase }, { on := 4, ground := Ground.phase }, { on := 5, ground := Ground.phase }, { on := 6, ground := Ground.phase }, { on := 7, ground := Ground.phase }, { on := 8, ground := Ground.phase }, { on := 9, ground := Ground.phase }, { on := 10, ground := Ground.phase }, { on := 11, ground := Ground.phase }, { on := 12, ground := Ground.phase }, { on := 13, ground := Ground.phase }], guard := none }) (v := ?_) rfl (by kernel_rfl) (by kernel_rfl) (by kernel_rfl) (fun _ _ _ h => h) (Or.inl ⟨by rfl, ?yields⟩) (by assumption) ?_
                        case yields => (intro w hSw; (try dsimp only at hSw); go_simp; try with_reducible rfl)
                        try simp only [Act.put, List.setIfInBounds_toArray, List.set_cons_zero, List.set_cons_succ]
                        refine wpAnyH_take (i := 15) (oi := { dst := some 91, op := Op.fieldAddr 69 (Operand.tmp 90) 0, type := 0, pos := "collate.go:96", after := #[{ on := 14, ground := Ground.data }, { on := 0, ground := Ground.phase }, { on := 1, ground := Ground.phase }, { on := 2, ground := Ground.phase }, { on := 3, ground := Ground.phase }, { on := 4, ground := Ground.phase }, { on := 5, ground := Ground.phase }, { on := 6, ground := Ground.phase }, { on := 7, ground := Ground.phase }, { on := 8, ground := Ground.phase }, { on := 9, ground := Ground.phase }, { on := 10, ground := Ground.phase }, { on := 11, ground := Ground.phase }, { on := 12, ground := Ground.phase }, { on := 13, ground := Ground.phase }], guard := none }) (v := ?_) rfl (by kernel_rfl) (by kernel_rfl) (by kernel_rfl) (fun _ _ _ h => h) (Or.inl ⟨by rfl, ?yields⟩) (by assumption) ?_
                        case yields => (intro w hSw; (try dsimp only at hSw); go_simp; try with_reducible rfl)
                        try simp only [Act.put, List.setIfInBounds_toArray, List.set_cons_zero, List.set_cons_succ]
                        refine wpAnyH_ready (rs := [16]) (by kernel_rfl) (by simp) ?_
                        refine AllReadyH.cons (o := { dst := none, op := Op.store 67 (Operand.tmp 91) (Operand.tmp 89), type := 0, pos := "collate.go:96", after := #[{ on := 15, ground := Ground.data }, { on := 13, ground := Ground.data }, { on := 13, ground := Ground.chain }, { on := 0, ground := Ground.phase }, { on := 1, ground := Ground.phase }, { on := 2, ground := Ground.phase }, { on := 3, ground := Ground.phase }, { on := 4, ground := Ground.phase }, { on := 5, ground := Ground.phase }, { on := 6, ground := Ground.phase }, { on := 7, ground := Ground.phase }, { on := 8, ground := Ground.phase }, { on := 9, ground := Ground.phase }, { on := 10, ground := Ground.phase }, { on := 11, ground := Ground.phase }, { on := 12, ground := Ground.phase }, { on := 13, ground := Ground.phase }], guard := none }) rfl (fun K hK => ?_) ?_
                        · go_simp
                          refine hK.out _ _ ?_ (fun hHeld6 => ?_)
                          · (try dsimp only); first | done | ((refine ⟨?_, ?_, ?_, ?_, ?_, ?_, ?_⟩ <;> first | assumption | exact far_keep (by assumption) (by assumption) | exact alloc_drew_keep (by assumption) | exact cell_grown (by assumption) (by assumption) (by assumption) | exact far_keep (by assumption) (by assumption) | (go_keep; done)))
                          clear hK K hHeld5
                          try simp only [Act.put, List.setIfInBounds_toArray, List.set_cons_zero, List.set_cons_succ]
                          refine wpAnyH_done (by kernel_rfl) ?_ _
                          go_wp2
                          go_roundw
                          case rel => exact ⟨i + 1, .slice A9 (cols.length + 1) c9, cols ++ [⟨kx, bits .and .u16 (bits .and .u16 (mk : Int) 496) 240 == 0, bits .and .u16 (mk : Int) 496, wr.heap.size + 1⟩], by go_num, HLT.out, ⟨by have hh := HG1.out.2; rw [List.length_append] at hh; exact hh⟩, ⟨by have hh := HR1.out; rw [List.length_append] at hh; exact Kd.R_set hh HG1.out.1 (by decide) 0 _⟩, ⟨by rw [take_next K i HLT.out, HK.out]; exact ColsOf.snoc HCi.out _ _ rfl (by unfold kindI; rw [HMK.out]) (by unfold kindI; rw [HMK.out])⟩, ⟨Kd.R_set HK1.out HG1.out.1 (by decide) 0 _⟩, ⟨all_next HLT.out HK.out HMK.out HT.out HAi.out⟩⟩
                          case measure => simp [intOf]; omega
                        exact AllReadyH.nil
                      exact AllReadyH.nil
                    exact AllReadyH.nil
                  exact AllReadyH.nil
                refine AllReadyH.cons (o := { dst := some 86, op := Op.makeFunc (Fn.func 55) #[] #[Operand.tmp 9], type := 42, pos := "collate.go:96", after := #[], guard := none }) rfl (fun K hK => ?_) ?_
                · go_simp
                  refine hK.out _ _ ?_ (fun hHeld7 => ?_)
                  · (try dsimp only); first | done | ((refine ⟨?_, ?_, ?_, ?_, ?_, ?_, ?_⟩ <;> first | assumption | exact far_keep (by assumption) (by assumption) | exact alloc_drew_keep (by assumption) | exact cell_grown (by assumption) (by assumption) (by assumption) | exact far_keep (by assumption) (by assumption) | (go_keep; done)))
                  clear hK K hHeld1
                  try simp only [Act.put, List.setIfInBounds_toArray, List.set_cons_zero, List.set_cons_succ]
                  refine wpAnyH_ready (rs := [9]) (by kernel_rfl) (by simp) ?_
                  refine AllReadyH.cons (o := { dst := some 85, op := Op.makeFunc (Fn.func 53) #[] #[Operand.tmp 9], type := 43, pos := "collate.go:96", after := #[], guard := none }) rfl (fun K hK => ?_) ?_
                  · go_simp
                    refine hK.out _ _ ?_ (fun hHeld8 => ?_)
                    · (try dsimp only); first | done | ((refine ⟨?_, ?_, ?_, ?_, ?_, ?_, ?_⟩ <;> first | assumption | exact far_keep (by assumption) (by assumption) | exact alloc_drew_keep (by assumption) | exact cell_grown (by assumption) (by assumption) (by assumption) | exact far_keep (by assumption) (by assumption) | (go_keep; done)))
                    clear hK K hHeld7
                    try simp only [Act.put, List.setIfInBounds_toArray, List.set_cons_zero, List.set_cons_succ]
                    refine wpAnyH_take (i := 11) (oi := { dst := some 87, op := Op.build 71 #[(0, Operand.tmp 81), (1, Operand.tmp 84), (2, Operand.tmp 85), (3, Operand.tmp 86)], type := 71, pos := "collate.go:96", after := #[{ on := 5, ground := Ground.data }, { on := 8, ground := Ground.data }, { on := 9, ground := Ground.data }, { on := 10, ground := Ground.data }], guard := none }) (v := ?_) rfl (by kernel_rfl) (by kernel_rfl) (by kernel_rfl) (fun _ _ _ h => h) (Or.inl ⟨by rfl, ?yields⟩) (by assumption) ?_
                    case yields => (intro w hSw; (try dsimp only at hSw); go_simp; try with_reducible rfl)
                    try simp only [Act.put, List.setIfInBounds_toArray, List.set_cons_zero, List.set_cons_succ]
                    refine wpAnyH_ready (rs := [12]) (by kernel_rfl) (by simp) ?_
                    refine AllReadyH.cons (o := { dst := some 88, op := Op.buildSlice 67 1 #[(0, Operand.tmp 87)], type := 67, pos := "collate.go:96", after := #[{ on := 11, ground := Ground.data }], guard := none }) rfl (fun K hK => ?_) ?_
                    · go_simp
                      refine hK.out _ _ ?_ (fun hHeld9 => ?_)
                      · (try dsimp only); first | done | ((refine ⟨?_, ?_, ?_, ?_, ?_, ?_, ?_⟩ <;> first | assumption | exact far_keep (by assumption) (by assumption) | exact alloc_drew_keep (by assumption) | exact cell_grown (by assumption) (by assumption) (by assumption) | exact far_keep (by assumption) (by assumption) | (go_keep; done)))
                      clear hK K hHeld8
                      try simp only [Act.put, List.setIfInBounds_toArray, List.set_cons_zero, List.set_cons_succ]
                      refine wpAnyH_ready (rs := [13]) (by kernel_rfl) (by simp) ?_
                      refine AllReadyH.cons (o := { dst := some 89, op := Op.call { callee := Callee.builtin Builtin.append, args := #[Operand.tmp 80, Operand.tmp 88], argTypes := #[67, 67] }, type := 67, pos := "collate.go:96", after := #[{ on := 4, ground := Ground.data }, { on := 12, ground := Ground.data }], guard := none }) rfl (fun K hK => ?_) ?_
                      · ((rw [drew_alloc_]; refine Kd.R_append_step kCol (w.heap.size + 1) rfl (.tmp 80) (.tmp 88) 67 71 (.agg #[.int .i64 0, .int .i64 0, .int .i64 0, .int .i64 0, .int .u16 0, .bool false, .bool false, .nilFunc, .nilFunc]) 64 rfl Tryd.underlying67 infoCol rfl (by decide) (by omega) v cols ⟨kx, bits .and .u16 (bits .and .u16 (mk : Int) 496) 240 == 0, bits .and .u16 (mk : Int) 496, wr.heap.size + 1⟩ _ (fun _ => True) (fun k => k = wr.heap.size + 1) (by simp [Act.eval, Act.put]) (by simp [Act.eval, Act.put]) ⟨by simp [Col.cells, HMK.out], HBk.out, rfl, Nat.succ_le_succ (Nat.le_of_lt HOi.out.size)⟩ (by rintro k rfl; exact ⟨trivial, HNk.out⟩) (fun _ _ => trivial) (by first | exact HRw.out | exact Kd.R_drew HRw.out) (Below.refl _ _) (by have hh := HS.out; have hh2 := HOi.out.size; simp; omega) (HLC.out) (fun v1 w1 hR1 hB1 hG1 _ => ?_); have hs9 := Kd.R_slice hR1; obtain ⟨A9, c9, hv9⟩ := hs9; subst hv9; have HR1 := Aside0.mk hR1; have HG1 := Aside0.mk (HOi.out.grow (v1 := .slice A9 (cols ++ [(⟨kx, bits .and .u16 (bits .and .u16 (mk : Int) 496) 240 == 0, bits .and .u16 (mk : Int) 496, wr.heap.size + 1⟩ : Col)]).length c9) (by first | exact HBw.out | exact HBw.out.drew) hB1 hG1 HNg.out); have HK1 := Aside0.mk (Kd.R_over (by first | exact HKw.out | exact Kd.R_drew HKw.out) (by first | exact HRw.out | exact Kd.R_drew HRw.out) (by decide) hG1); have hcg1 := blk_cell HG1.out.1; have hfg1 := blk_frozen HG1.out.1 0; have hG9 := hG1; have hn1 := HNa.out; have hn2 := HNk.out; have y0 := cell_grown hG9 hn1 (W := W3.drew) q0; have y1 := cell_grown hG9 hn1 (W := W3.drew) q1; have y2 := cell_grown hG9 hn1 (W := W3.drew) q2; have y3 := cell_grown hG9 hn1 (W := W3.drew) q3; have y4 := cell_grown hG9 hn1 (W := W3.drew) q4; have y5 := cell_grown hG9 hn1 (W := W3.drew) q5; have y6 := cell_grown hG9 hn2 (W := W3.drew) q6; clear hR1 hB1 hG1))
                        refine hK.out _ _ ?_ (fun hHeld10 => ?_)
                        · (try dsimp only); first | done | ((refine ⟨?_, ?_, ?_, ?_, ?_, ?_, ?_⟩ <;> first | assumption | exact far_keep (by assumption) (by assumption) | exact alloc_drew_keep (by assumption) | exact cell_grown (by assumption) (by assumption) (by assumption) | exact far_keep (by assumption) (by assumption) | (go_keep; done)))
                        clear hK K hHeld9
                        try simp only [Act.put, List.setIfInBounds_toArray, List.set_cons_zero, List.set_cons_succ]
                        refine wpAnyH_take (i := 14) (oi := { dst := some 90, op := Op.nilCheck (Operand.tmp 76), type := 0, pos := "collate.go:96", after := #[{ on := 0, ground := Ground.data }, { on := 0, ground := Ground.phase }, { on := 1, ground := Ground.phase }, { on := 2, ground := Ground.phase }, { on := 3, ground := Ground.phase }, { on := 4, ground := Ground.phase }, { on := 5, ground := Ground.phase }, { on := 6, ground := Ground.phase }, { on := 7, ground := Ground.phase }, { on := 8, ground := Ground.phase }, { on := 9, ground := Ground.phase }, { on := 10, ground := Ground.phase }, { on := 11, ground := Ground.phase }, { on := 12, ground := Ground.phase }, { on := 13, ground := Ground.phase }], guard := none }) (v := ?_) rfl (by kernel_rfl) (by kernel_rfl) (by kernel_rfl) (fun _ _ _ h => h) (Or.inl ⟨by rfl, ?yields⟩) (by assumption) ?_
                        case yields => (intro w hSw; (try dsimp only at hSw); go_simp; try with_reducible rfl)
                        try simp only [Act.put, List.setIfInBounds_toArray, List.set_cons_zero, List.set_cons_succ]
                        refine wpAnyH_take (i := 15) (oi := { dst := some 91, op := Op.fieldAddr 69 (Operand.tmp 90) 0, type := 0, pos := "collate.go:96", after := #[{ on := 14, ground := Ground.data }, { on := 0, ground := Ground.phase }, { on := 1, ground := Ground.phase }, { on := 2, ground := Ground.phase }, { on := 3, ground := Ground.phase }, { on := 4, ground := Ground.phase }, { on := 5, ground := Ground.phase }, { on := 6, ground := Ground.phase }, { on := 7, ground := Ground.phase }, { on := 8, ground := Ground.phase }, { on := 9, ground := Ground.phase }, { on := 10, ground := Ground.phase }, { on := 11, ground := Ground.phase }, { on := 12, ground := Ground.phase }, { on := 13, ground := Ground.phase }], guard := none }) (v := ?_) rfl (by kernel_rfl) (by kernel_rfl) (by kernel_rfl) (fun _ _ _ h => h) (Or.inl ⟨by rfl, ?yields⟩) (by assumption) ?_
                        case yields => (intro w hSw; (try dsimp only at hSw); go_simp; try with_reducible rfl)
                        try simp only [Act.put, List.setIfInBounds_toArray, List.set_cons_zero, List.set_cons_succ]
                        refine wpAnyH_ready (rs := [16]) (by kernel_rfl) (by simp) ?_
                        refine AllReadyH.cons (o := { dst := none, op := Op.store 67 (Operand.tmp 91) (Operand.tmp 89), type := 0, pos := "collate.go:96", after := #[{ on := 15, ground := Ground.data }, { on := 13, ground := Ground.data }, { on := 13, ground := Ground.chain }, { on := 0, ground := Ground.phase }, { on := 1, ground := Ground.phase }, { on := 2, ground := Ground.phase }, { on := 3, ground := Ground.phase }, { on := 4, ground := Ground.phase }, { on := 5, ground := Ground.phase }, { on := 6, ground := Ground.phase }, { on := 7, ground := Ground.phase }, { on := 8, ground := Ground.phase }, { on := 9, ground := Ground.phase }, { on := 10, ground := Ground.phase }, { on := 11, ground := Ground.phase }, { on := 12, ground := Ground.phase }, { on := 13, ground := Ground.phase }], guard := none }) rfl (fun K hK => ?_) ?_
                        · go_simp
                          refine hK.out _ _ ?_ (fun hHeld11 => ?_)
                          · (try dsimp only); first | done | ((refine ⟨?_, ?_, ?_, ?_, ?_, ?_, ?_⟩ <;> first | assumption | exact far_keep (by assumption) (by assumption) | exact alloc_drew_keep (by assumption) | exact cell_grown (by assumption) (by assumption) (by assumption) | exact far_keep (by assumption) (by assumption) | (go_keep; done)))
                          clear hK K hHeld10
                          try simp only [Act.put, List.setIfInBounds_toArray, List.set_cons_zero, List.set_cons_succ]
                          refine wpAnyH_done (by kernel_rfl) ?_ _
                          go_wp2
                          go_roundw
                          case rel => exact ⟨i + 1, .slice A9 (cols.length + 1) c9, cols ++ [⟨kx, bits .and .u16 (bits .and .u16 (mk : Int) 496) 240 == 0, bits .and .u16 (mk : Int) 496, wr.heap.size + 1⟩], by go_num, HLT.out, ⟨by have hh := HG1.out.2; rw [List.length_append] at hh; exact hh⟩, ⟨by have hh := HR1.out; rw [List.length_append] at hh; exact Kd.R_set hh HG1.out.1 (by decide) 0 _⟩, ⟨by rw [take_next K i HLT.out, HK.out]; exact ColsOf.snoc HCi.out _ _ rfl (by unfold kindI; rw [HMK.out]) (by unfold kindI; rw [HMK.out])⟩, ⟨Kd.R_set HK1.out HG1.out.1 (by decide) 0 _⟩, ⟨all_next HLT.out HK.out HMK.out HT.out HAi.out⟩⟩
                          case measure => simp [intOf]; omega
                        exact AllReadyH.nil
                      exact AllReadyH.nil
                    exact AllReadyH.nil
                  exact AllReadyH.nil
                exact AllReadyH.nil
              refine AllReadyH.cons (o := { dst := some 85, op := Op.makeFunc (Fn.func 53) #[] #[Operand.tmp 9], type := 43, pos := "collate.go:96", after := #[], guard := none }) rfl (fun K hK => ?_) ?_
              · go_simp
                refine hK.out _ _ ?_ (fun hHeld12 => ?_)
                · (try dsimp only); first | done | ((refine ⟨?_, ?_, ?_, ?_, ?_, ?_, ?_⟩ <;> first | assumption | exact far_keep (by assumption) (by assumption) | exact alloc_drew_keep (by assumption) | exact cell_grown (by assumption) (by assumption) (by assumption) | exact far_keep (by assumption) (by assumption) | (go_keep; done)))
                clear hK K hHeld0
                try simp only [Act.put, List.setIfInBounds_toArray, List.set_cons_zero, List.set_cons_succ]
                refine wpAnyH_ready (rs := [4, 10]) (by kernel_rfl) (by simp) ?_
                refine AllReadyH.cons (o := { dst := some 80, op := Op.load 67 (Operand.tmp 79), type := 67, pos := "collate.go:96", after := #[{ on := 3, ground := Ground.data }], guard := none }) rfl (fun K hK => ?_) ?_
                · go_simp
                  refine hK.out _ _ ?_ (fun hHeld13 => ?_)
                  · (try dsimp only); first | done | ((refine ⟨?_, ?_, ?_, ?_, ?_, ?_, ?_⟩ <;> first | assumption | exact far_keep (by assumption) (by assumption) | exact alloc_drew_keep (by assumption) | exact cell_grown (by assumption) (by assumption) (by assumption) | exact far_keep (by assumption) (by assumption) | (go_keep; done)))
                  clear hK K hHeld12
                  try simp only [Act.put, List.setIfInBounds_toArray, List.set_cons_zero, List.set_cons_succ]
                  refine wpAnyH_ready (rs := [10]) (by kernel_rfl) (by simp) ?_
                  refine AllReadyH.cons (o := { dst := some 86, op := Op.makeFunc (Fn.func 55) #[] #[Operand.tmp 9], type := 42, pos := "collate.go:96", after := #[], guard := none }) rfl (fun K hK => ?_) ?_
                  · go_simp
                    refine hK.out _ _ ?_ (fun hHeld14 => ?_)
                    · (try dsimp only); first | done | ((refine ⟨?_, ?_, ?_, ?_, ?_, ?_, ?_⟩ <;> first | assumption | exact far_keep (by assumption) (by assumption) | exact alloc_drew_keep (by assumption) | exact cell_grown (by assumption) (by assumption) (by assumption) | exact far_keep (by assumption) (by assumption) | (go_keep; done)))
                    clear hK K hHeld13
                    try simp only [Act.put, List.setIfInBounds_toArray, List.set_cons_zero, List.set_cons_succ]
                    refine wpAnyH_take (i := 11) (oi := { dst := some 87, op := Op.build 71 #[(0, Operand.tmp 81), (1, Operand.tmp 84), (2, Operand.tmp 85), (3, Operand.tmp 86)], type := 71, pos := "collate.go:96", after := #[{ on := 5, ground := Ground.data }, { on := 8, ground := Ground.data }, { on := 9, ground := Ground.data }, { on := 10, ground := Ground.data }], guard := none }) (v := ?_) rfl (by kernel_rfl) (by kernel_rfl) (by kernel_rfl) (fun _ _ _ h => h) (Or.inl ⟨by rfl, ?yields⟩) (by assumption) ?_
                    case yields => (intro w hSw; (try dsimp only at hSw); go_simp; try with_reducible rfl)
                    try simp only [Act.put, List.setIfInBounds_toArray, List.set_cons_zero, List.set_cons_succ]
                    refine wpAnyH_ready (rs := [12]) (by kernel_rfl) (by simp) ?_
                    refine AllReadyH.cons (o := { dst := some 88, op := Op.buildSlice 67 1 #[(0, Operand.tmp 87)], type := 67, pos := "collate.go:96", after := #[{ on := 11, ground := Ground.data }], guard := none }) rfl (fun K hK => ?_) ?_
                    · go_simp
                      refine hK.out _ _ ?_ (fun hHeld15 => ?_)
                      · (try dsimp only); first | done | ((refine ⟨?_, ?_, ?_, ?_, ?_, ?_, ?_⟩ <;> first | assumption | exact far_keep (by assumption) (by assumption) | exact alloc_drew_keep (by assumption) | exact cell_grown (by assumption) (by assumption) (by assumption) | exact far_keep (by assumption) (by assumption) | (go_keep; done)))
                      clear hK K hHeld14
                      try simp only [Act.put, List.setIfInBounds_toArray, List.set_cons_zero, List.set_cons_succ]
                      refine wpAnyH_ready (rs := [13]) (by kernel_rfl) (by simp) ?_
                      refine AllReadyH.cons (o := { dst := some 89, op := Op.call { callee := Callee.builtin Builtin.append, args := #[Operand.tmp 80, Operand.tmp 88], argTypes := #[67, 67] }, type := 67, pos := "collate.go:96", after := #[{ on := 4, ground := Ground.data }, { on := 12, ground := Ground.data }], guard := none }) rfl (fun K hK => ?_) ?_
                      · ((rw [drew_alloc_]; refine Kd.R_append_step kCol (w.heap.size + 1) rfl (.tmp 80) (.tmp 88) 67 71 (.agg #[.int .i64 0, .int .i64 0, .int .i64 0, .int .i64 0, .int .u16 0, .bool false, .bool false, .nilFunc, .nilFunc]) 64 rfl Tryd.underlying67 infoCol rfl (by decide) (by omega) v cols ⟨kx, bits .and .u16 (bits .and .u16 (mk : Int) 496) 240 == 0, bits .and .u16 (mk : Int) 496, wr.heap.size + 1⟩ _ (fun _ => True) (fun k => k = wr.heap.size + 1) (by simp [Act.eval, Act.put]) (by simp [Act.eval, Act.put]) ⟨by simp [Col.cells, HMK.out], HBk.out, rfl, Nat.succ_le_succ (Nat.le_of_lt HOi.out.size)⟩ (by rintro k rfl; exact ⟨trivial, HNk.out⟩) (fun _ _ => trivial) (by first | exact HRw.out | exact Kd.R_drew HRw.out) (Below.refl _ _) (by have hh := HS.out; have hh2 := HOi.out.size; simp; omega) (HLC.out) (fun v1 w1 hR1 hB1 hG1 _ => ?_); have hs9 := Kd.R_slice hR1; obtain ⟨A9, c9, hv9⟩ := hs9; subst hv9; have HR1 := Aside0.mk hR1; have HG1 := Aside0.mk (HOi.out.grow (v1 := .slice A9 (cols ++ [(⟨kx, bits .and .u16 (bits .and .u16 (mk : Int) 496) 240 == 0, bits .and .u16 (mk : Int) 496, wr.heap.size + 1⟩ : Col)]).length c9) (by first | exact HBw.out | exact HBw.out.drew) hB1 hG1 HNg.out); have HK1 := Aside0.mk (Kd.R_over (by first | exact HKw.out | exact Kd.R_drew HKw.out) (by first | exact HRw.out | exact Kd.R_drew HRw.out) (by decide) hG1); have hcg1 := blk_cell HG1.out.1; have hfg1 := blk_frozen HG1.out.1 0; have hG9 := hG1; have hn1 := HNa.out; have hn2 := HNk.out; have y0 := cell_grown hG9 hn1 (W := W3.drew) q0; have y1 := cell_grown hG9 hn1 (W := W3.drew) q1; have y2 := cell_grown hG9 hn1 (W := W3.drew) q2; have y3 := cell_grown hG9 hn1 (W := W3.drew) q3; have y4 := cell_grown hG9 hn1 (W := W3.drew) q4; have y5 := cell_grown hG9 hn1 (W := W3.drew) q5; have y6 := cell_grown hG9 hn2 (W := W3.drew) q6; clear hR1 hB1 hG1))
                        refine hK.out _ _ ?_ (fun hHeld16 => ?_)
                        · (try dsimp only); first | done | ((refine ⟨?_, ?_, ?_, ?_, ?_, ?_, ?_⟩ <;> first | assumption | exact far_keep (by assumption) (by assumption) | exact alloc_drew_keep (by assumption) | exact cell_grown (by assumption) (by assumption) (by assumption) | exact far_keep (by assumption) (by assumption) | (go_keep; done)))
                        clear hK K hHeld15
                        try simp only [Act.put, List.setIfInBounds_toArray, List.set_cons_zero, List.set_cons_succ]
                        refine wpAnyH_take (i := 14) (oi := { dst := some 90, op := Op.nilCheck (Operand.tmp 76), type := 0, pos := "collate.go:96", after := #[{ on := 0, ground := Ground.data }, { on := 0, ground := Ground.phase }, { on := 1, ground := Ground.phase }, { on := 2, ground := Ground.phase }, { on := 3, ground := Ground.phase }, { on := 4, ground := Ground.phase }, { on := 5, ground := Ground.phase }, { on := 6, ground := Ground.phase }, { on := 7, ground := Ground.phase }, { on := 8, ground := Ground.phase }, { on := 9, ground := Ground.phase }, { on := 10, ground := Ground.phase }, { on := 11, ground := Ground.phase }, { on := 12, ground := Ground.phase }, { on := 13, ground := Ground.phase }], guard := none }) (v := ?_) rfl (by kernel_rfl) (by kernel_rfl) (by kernel_rfl) (fun _ _ _ h => h) (Or.inl ⟨by rfl, ?yields⟩) (by assumption) ?_
                        case yields => (intro w hSw; (try dsimp only at hSw); go_simp; try with_reducible rfl)
                        try simp only [Act.put, List.setIfInBounds_toArray, List.set_cons_zero, List.set_cons_succ]
                        refine wpAnyH_take (i := 15) (oi := { dst := some 91, op := Op.fieldAddr 69 (Operand.tmp 90) 0, type := 0, pos := "collate.go:96", after := #[{ on := 14, ground := Ground.data }, { on := 0, ground := Ground.phase }, { on := 1, ground := Ground.phase }, { on := 2, ground := Ground.phase }, { on := 3, ground := Ground.phase }, { on := 4, ground := Ground.phase }, { on := 5, ground := Ground.phase }, { on := 6, ground := Ground.phase }, { on := 7, ground := Ground.phase }, { on := 8, ground := Ground.phase }, { on := 9, ground := Ground.phase }, { on := 10, ground := Ground.phase }, { on := 11, ground := Ground.phase }, { on := 12, ground := Ground.phase }, { on := 13, ground := Ground.phase }], guard := none }) (v := ?_) rfl (by kernel_rfl) (by kernel_rfl) (by kernel_rfl) (fun _ _ _ h => h) (Or.inl ⟨by rfl, ?yields⟩) (by assumption) ?_
                        case yields => (intro w hSw; (try dsimp only at hSw); go_simp; try with_reducible rfl)
                        try simp only [Act.put, List.setIfInBounds_toArray, List.set_cons_zero, List.set_cons_succ]
                        refine wpAnyH_ready (rs := [16]) (by kernel_rfl) (by simp) ?_
                        refine AllReadyH.cons (o := { dst := none, op := Op.store 67 (Operand.tmp 91) (Operand.tmp 89), type := 0, pos := "collate.go:96", after := #[{ on := 15, ground := Ground.data }, { on := 13, ground := Ground.data }, { on := 13, ground := Ground.chain }, { on := 0, ground := Ground.phase }, { on := 1, ground := Ground.phase }, { on := 2, ground := Ground.phase }, { on := 3, ground := Ground.phase }, { on := 4, ground := Ground.phase }, { on := 5, ground := Ground.phase }, { on := 6, ground := Ground.phase }, { on := 7, ground := Ground.phase }, { on := 8, ground := Ground.phase }, { on := 9, ground := Ground.phase }, { on := 10, ground := Ground.phase }, { on := 11, ground := Ground.phase }, { on := 12, ground := Ground.phase }, { on := 13, ground := Ground.phase }], guard := none }) rfl (fun K hK => ?_) ?_
                        · go_simp
                          refine hK.out _ _ ?_ (fun hHeld17 => ?_)
                          · (try dsimp only); first | done | ((refine ⟨?_, ?_, ?_, ?_, ?_, ?_, ?_⟩ <;> first | assumption | exact far_keep (by assumption) (by assumption) | exact alloc_drew_keep (by assumption) | exact cell_grown (by assumption) (by assumption) (by assumption) | exact far_keep (by assumption) (by assumption) | (go_keep; done)))
                          clear hK K hHeld16
                          try simp only [Act.put, List.setIfInBounds_toArray, List.set_cons_zero, List.set_cons_succ]
                          refine wpAnyH_done (by kernel_rfl) ?_ _
                          go_wp2
                          go_roundw
                          case rel => exact ⟨i + 1, .slice A9 (cols.length + 1) c9, cols ++ [⟨kx, bits .and .u16 (bits .and .u16 (mk : Int) 496) 240 == 0, bits .and .u16 (mk : Int) 496, wr.heap.size + 1⟩], by go_num, HLT.out, ⟨by have hh := HG1.out.2; rw [List.length_append] at hh; exact hh⟩, ⟨by have hh := HR1.out; rw [List.length_append] at hh; exact Kd.R_set hh HG1.out.1 (by decide) 0 _⟩, ⟨by rw [take_next K i HLT.out, HK.out]; exact ColsOf.snoc HCi.out _ _ rfl (by unfold kindI; rw [HMK.out]) (by unfold kindI; rw [HMK.out])⟩, ⟨Kd.R_set HK1.out HG1.out.1 (by decide) 0 _⟩, ⟨all_next HLT.out HK.out HMK.out HT.out HAi.out⟩⟩
                          case measure => simp [intOf]; omega
                        exact AllReadyH.nil
                      exact AllReadyH.nil
                    exact AllReadyH.nil
                  exact AllReadyH.nil
                refine AllReadyH.cons (o := { dst := some 86, op := Op.makeFunc (Fn.func 55) #[] #[Operand.tmp 9], type := 42, pos := "collate.go:96", after := #[], guard := none }) rfl (fun K hK => ?_) ?_
                · go_simp
                  refine hK.out _ _ ?_ (fun hHeld18 => ?_)
                  · (try dsimp only); first | done | ((refine ⟨?_, ?_, ?_, ?_, ?_, ?_, ?_⟩ <;> first | assumption | exact far_keep (by assumption) (by assumption) | exact alloc_drew_keep (by assumption) | exact cell_grown (by assumption) (by assumption) (by assumption) | exact far_keep (by assumption) (by assumption) | (go_keep; done)))
                  clear hK K hHeld12
                  try simp only [Act.put, List.setIfInBounds_toArray, List.set_cons_zero, List.set_cons_succ]
                  refine wpAnyH_take (i := 11) (oi := { dst := some 87, op := Op.build 71 #[(0, Operand.tmp 81), (1, Operand.tmp 84), (2, Operand.tmp 85), (3, Operand.tmp 86)], type := 71, pos := "collate.go:96", after := #[{ on := 5, ground := Ground.data }, { on := 8, ground := Ground.data }, { on := 9, ground := Ground.data }, { on := 10, ground := Ground.data }], guard := none }) (v := ?_) rfl (by kernel_rfl) (by kernel_rfl) (by kernel_rfl) (fun _ _ _ h => h) (Or.inl ⟨by rfl, ?yields⟩) (by assumption) ?_
                  case yields => (intro w hSw; (try dsimp only at hSw); go_simp; try with_reducible rfl)
                  try simp only [Act.put, List.setIfInBounds_toArray, List.set_cons_zero, List.set_cons_succ]
                  refine wpAnyH_ready (rs := [4, 12]) (by kernel_rfl) (by simp) ?_
                  refine AllReadyH.cons (o := { dst := some 80, op := Op.load 67 (Operand.tmp 79), type := 67, pos := "collate.go:96", after := #[{ on := 3, ground := Ground.data }], guard := none }) rfl (fun K hK => ?_) ?_
                  · go_simp
                    refine hK.out _ _ ?_ (fun hHeld19 => ?_)
                    · (try dsimp only); first | done | ((refine ⟨?_, ?_, ?_, ?_, ?_, ?_, ?_⟩ <;> first | assumption | exact far_keep (by assumption) (by assumption) | exact alloc_drew_keep (by assumption) | exact cell_grown (by assumption) (by assumption) (by assumption) | exact far_keep (by assumption) (by assumption) | (go_keep; done)))
                    clear hK K hHeld18
                    try simp only [Act.put, List.setIfInBounds_toArray, List.set_cons_zero, List.set_cons_succ]
                    refine wpAnyH_ready (rs := [12]) (by kernel_rfl) (by simp) ?_
                    refine AllReadyH.cons (o := { dst := some 88, op := Op.buildSlice 67 1 #[(0, Operand.tmp 87)], type := 67, pos := "collate.go:96", after := #[{ on := 11, ground := Ground.data }], guard := none }) rfl (fun K hK => ?_) ?_
                    · go_simp
                      refine hK.out _ _ ?_ (fun hHeld20 => ?_)
                      · (try dsimp only); first | done | ((refine ⟨?_, ?_, ?_, ?_, ?_, ?_, ?_⟩ <;> first | assumption | exact far_keep (by assumption) (by assumption) | exact alloc_drew_keep (by assumption) | exact cell_grown (by assumption) (by assumption) (by assumption) | exact far_keep (by assumption) (by assumption) | (go_keep; done)))
                      clear hK K hHeld19
                      try simp only [Act.put, List.setIfInBounds_toArray, List.set_cons_zero, List.set_cons_succ]
                      refine wpAnyH_ready (rs := [13]) (by kernel_rfl) (by simp) ?_
                      refine AllReadyH.cons (o := { dst := some 89, op := Op.call { callee := Callee.builtin Builtin.append, args := #[Operand.tmp 80, Operand.tmp 88], argTypes := #[67, 67] }, type := 67, pos := "collate.go:96", after := #[{ on := 4, ground := Ground.data }, { on := 12, ground := Ground.data }], guard := none }) rfl (fun K hK => ?_) ?_
                      · ((rw [drew_alloc_]; refine Kd.R_append_step kCol (w.heap.size + 1) rfl (.tmp 80) (.tmp 88) 67 71 (.agg #[.int .i64 0, .int .i64 0, .int .i64 0, .int .i64 0, .int .u16 0, .bool false, .bool false, .nilFunc, .nilFunc]) 64 rfl Tryd.underlying67 infoCol rfl (by decide) (by omega) v cols ⟨kx, bits .and .u16 (bits .and .u16 (mk : Int) 496) 240 == 0, bits .and .u16 (mk : Int) 496, wr.heap.size + 1⟩ _ (fun _ => True) (fun k => k = wr.heap.size + 1) (by simp [Act.eval, Act.put]) (by simp [Act.eval, Act.put]) ⟨by simp [Col.cells, HMK.out], HBk.out, rfl, Nat.succ_le_succ (Nat.le_of_lt HOi.out.size)⟩ (by rintro k rfl; exact ⟨trivial, HNk.out⟩) (fun _ _ => trivial) (by first | exact HRw.out | exact Kd.R_drew HRw.out) (Below.refl _ _) (by have hh := HS.out; have hh2 := HOi.out.size; simp; omega) (HLC.out) (fun v1 w1 hR1 hB1 hG1 _ => ?_); have hs9 := Kd.R_slice hR1; obtain ⟨A9, c9, hv9⟩ := hs9; subst hv9; have HR1 := Aside0.mk hR1; have HG1 := Aside0.mk (HOi.out.grow (v1 := .slice A9 (cols ++ [(⟨kx, bits .and .u16 (bits .and .u16 (mk : Int) 496) 240 == 0, bits .and .u16 (mk : Int) 496, wr.heap.size + 1⟩ : Col)]).length c9) (by first | exact HBw.out | exact HBw.out.drew) hB1 hG1 HNg.out); have HK1 := Aside0.mk (Kd.R_over (by first | exact HKw.out | exact Kd.R_drew HKw.out) (by first | exact HRw.out | exact Kd.R_drew HRw.out) (by decide) hG1); have hcg1 := blk_cell HG1.out.1; have hfg1 := blk_frozen HG1.out.1 0; have hG9 := hG1; have hn1 := HNa.out; have hn2 := HNk.out; have y0 := cell_grown hG9 hn1 (W := W3.drew) q0; have y1 := cell_grown hG9 hn1 (W := W3.drew) q1; have y2 := cell_grown hG9 hn1 (W := W3.drew) q2; have y3 := cell_grown hG9 hn1 (W := W3.drew) q3; have y4 := cell_grown hG9 hn1 (W := W3.drew) q4; have y5 := cell_grown hG9 hn1 (W := W3.drew) q5; have y6 := cell_grown hG9 hn2 (W := W3.drew) q6; clear hR1 hB1 hG1))
                        refine hK.out _ _ ?_ (fun hHeld21 => ?_)
                        · (try dsimp only); first | done | ((refine ⟨?_, ?_, ?_, ?_, ?_, ?_, ?_⟩ <;> first | assumption | exact far_keep (by assumption) (by assumption) | exact alloc_drew_keep (by assumption) | exact cell_grown (by assumption) (by assumption) (by assumption) | exact far_keep (by assumption) (by assumption) | (go_keep; done)))
                        clear hK K hHeld20
                        try simp only [Act.put, List.setIfInBounds_toArray, List.set_cons_zero, List.set_cons_succ]
                        refine wpAnyH_take (i := 14) (oi := { dst := some 90, op := Op.nilCheck (Operand.tmp 76), type := 0, pos := "collate.go:96", after := #[{ on := 0, ground := Ground.data }, { on := 0, ground := Ground.phase }, { on := 1, ground := Ground.phase }, { on := 2, ground := Ground.phase }, { on := 3, ground := Ground.phase }, { on := 4, ground := Ground.phase }, { on := 5, ground := Ground.phase }, { on := 6, ground := Ground.phase }, { on := 7, ground := Ground.phase }, { on := 8, ground := Ground.phase }, { on := 9, ground := Ground.phase }, { on := 10, ground := Ground.phase }, { on := 11, ground := Ground.phase }, { on := 12, ground := Ground.phase }, { on := 13, ground := Ground.phase }], guard := none }) (v := ?_) rfl (by kernel_rfl) (by kernel_rfl) (by kernel_rfl) (fun _ _ _ h => h) (Or.inl ⟨by rfl, ?yields⟩) (by assumption) ?_
                        case yields => (intro w hSw; (try dsimp only at hSw); go_simp; try with_reducible rfl)
                        try simp only [Act.put, List.setIfInBounds_toArray, List.set_cons_zero, List.set_cons_succ]
                        refine wpAnyH_take (i := 15) (oi := { dst := some 91, op := Op.fieldAddr 69 (Operand.tmp 90) 0, type := 0, pos := "collate.go:96", after := #[{ on := 14, ground := Ground.data }, { on := 0, ground := Ground.phase }, { on := 1, ground := Ground.phase }, { on := 2, ground := Ground.phase }, { on := 3, ground := Ground.phase }, { on := 4, ground := Ground.phase }, { on := 5, ground := Ground.phase }, { on := 6, ground := Ground.phase }, { on := 7, ground := Ground.phase }, { on := 8, ground := Ground.phase }, { on := 9, ground := Ground.phase }, { on := 10, ground := Ground.phase }, { on := 11, ground := Ground.phase }, { on := 12, ground := Ground.phase }, { on := 13, ground := Ground.phase }], guard := none }) (v := ?_) rfl (by kernel_rfl) (by kernel_rfl) (by kernel_rfl) (fun _ _ _ h => h) (Or.inl ⟨by rfl, ?yields⟩) (by assumption) ?_
                        case yields => (intro w hSw; (try dsimp only at hSw); go_simp; try with_reducible rfl)
                        try simp only [Act.put, List.setIfInBounds_toArray, List.set_cons_zero, List.set_cons_succ]
                        refine wpAnyH_ready (rs := [16]) (by kernel_rfl) (by simp) ?_
                        refine AllReadyH.cons (o := { dst := none, op := Op.store 67 (Operand.tmp 91) (Operand.tmp 89), type := 0, pos := "collate.go:96", after := #[{ on := 15, ground := Ground.data }, { on := 13, ground := Ground.data }, { on := 13, ground := Ground.chain }, { on := 0, ground := Ground.phase }, { on := 1, ground := Ground.phase }, { on := 2, ground := Ground.phase }, { on := 3, ground := Ground.phase }, { on := 4, ground := Ground.phase }, { on := 5, ground := Ground.phase }, { on := 6, ground := Ground.phase }, { on := 7, ground := Ground.phase }, { on := 8, ground := Ground.phase }, { on := 9, ground := Ground.phase }, { on := 10, ground := Ground.phase }, { on := 11, ground := Ground.phase }, { on := 12, ground := Ground.phase }, { on := 13, ground := Ground.phase }], guard := none }) rfl (fun K hK => ?_) ?_
                        · go_simp
                          refine hK.out _ _ ?_ (fun hHeld22 => ?_)
                          · (try dsimp only); first | done | ((refine ⟨?_, ?_, ?_, ?_, ?_, ?_, ?_⟩ <;> first | assumption | exact far_keep (by assumption) (by assumption) | exact alloc_drew_keep (by assumption) | exact cell_grown (by assumption) (by assumption) (by assumption) | exact far_keep (by assumption) (by assumption) | (go_keep; done)))
                          clear hK K hHeld21
                          try simp only [Act.put, List.setIfInBounds_toArray, List.set_cons_zero, List.set_cons_succ]
                          refine wpAnyH_done (by kernel_rfl) ?_ _
                          go_wp2
                          go_roundw
                          case rel => exact ⟨i + 1, .slice A9 (cols.length + 1) c9, cols ++ [⟨kx, bits .and .u16 (bits .and .u16 (mk : Int) 496) 240 == 0, bits .and .u16 (mk : Int) 496, wr.heap.size + 1⟩], by go_num, HLT.out, ⟨by have hh := HG1.out.2; rw [List.length_append] at hh; exact hh⟩, ⟨by have hh := HR1.out; rw [List.length_append] at hh; exact Kd.R_set hh HG1.out.1 (by decide) 0 _⟩, ⟨by rw [take_next K i HLT.out, HK.out]; exact ColsOf.snoc HCi.out _ _ rfl (by unfold kindI; rw [HMK.out]) (by unfold kindI; rw [HMK.out])⟩, ⟨Kd.R_set HK1.out HG1.out.1 (by decide) 0 _⟩, ⟨all_next HLT.out HK.out HMK.out HT.out HAi.out⟩⟩
                          case measure => simp [intOf]; omega
                        exact AllReadyH.nil
                      exact AllReadyH.nil
                    exact AllReadyH.nil
                  refine AllReadyH.cons (o := { dst := some 88, op := Op.buildSlice 67 1 #[(0, Operand.tmp 87)], type := 67, pos := "collate.go:96", after := #[{ on := 11, ground := Ground.data }], guard := none }) rfl (fun K hK => ?_) ?_
                  · go_simp
                    refine hK.out _ _ ?_ (fun hHeld23 => ?_)
                    · (try dsimp only); first | done | ((refine ⟨?_, ?_, ?_, ?_, ?_, ?_, ?_⟩ <;> first | assumption | exact far_keep (by assumption) (by assumption) | exact alloc_drew_keep (by assumption) | exact cell_grown (by assumption) (by assumption) (by assumption) | exact far_keep (by assumption) (by assumption) | (go_keep; done)))
                    clear hK K hHeld18
                    try simp only [Act.put, List.setIfInBounds_toArray, List.set_cons_zero, List.set_cons_succ]
                    refine wpAnyH_ready (rs := [4]) (by kernel_rfl) (by simp) ?_
                    refine AllReadyH.cons (o := { dst := some 80, op := Op.load 67 (Operand.tmp 79), type := 67, pos := "collate.go:96", after := #[{ on := 3, ground := Ground.data }], guard := none }) rfl (fun K hK => ?_) ?_
                    · go_simp
                      refine hK.out _ _ ?_ (fun hHeld24 => ?_)
                      · (try dsimp only); first | done | ((refine ⟨?_, ?_, ?_, ?_, ?_, ?_, ?_⟩ <;> first | assumption | exact far_keep (by assumption) (by assumption) | exact alloc_drew_keep (by assumption) | exact cell_grown (by assumption) (by assumption) (by assumption) | exact far_keep (by assumption) (by assumption) | (go_keep; done)))
                      clear hK K hHeld23
                      try simp only [Act.put, List.setIfInBounds_toArray, List.set_cons_zero, List.set_cons_succ]
                      refine wpAnyH_ready (rs := [13]) (by kernel_rfl) (by simp) ?_
                      refine AllReadyH.cons (o := { dst := some 89, op := Op.call { callee := Callee.builtin Builtin.append, args := #[Operand.tmp 80, Operand.tmp 88], argTypes := #[67, 67] }, type := 67, pos := "collate.go:96", after := #[{ on := 4, ground := Ground.data }, { on := 12, ground := Ground.data }], guard := none }) rfl (fun K hK => ?_) ?_
                      · ((rw [drew_alloc_]; refine Kd.R_append_step kCol (w.heap.size + 1) rfl (.tmp 80) (.tmp 88) 67 71 (.agg #[.int .i64 0, .int .i64 0, .int .i64 0, .int .i64 0, .int .u16 0, .bool false, .bool false, .nilFunc, .nilFunc]) 64 rfl Tryd.underlying67 infoCol rfl (by decide) (by omega) v cols ⟨kx, bits .and .u16 (bits .and .u16 (mk : Int) 496) 240 == 0, bits .and .u16 (mk : Int) 496, wr.heap.size + 1⟩ _ (fun _ => True) (fun k => k = wr.heap.size + 1) (by simp [Act.eval, Act.put]) (by simp [Act.eval, Act.put]) ⟨by simp [Col.cells, HMK.out], HBk.out, rfl, Nat.succ_le_succ (Nat.le_of_lt HOi.out.size)⟩ (by rintro k rfl; exact ⟨trivial, HNk.out⟩) (fun _ _ => trivial) (by first | exact HRw.out | exact Kd.R_drew HRw.out) (Below.refl _ _) (by have hh := HS.out; have hh2 := HOi.out.size; simp; omega) (HLC.out) (fun v1 w1 hR1 hB1 hG1 _ => ?_); have hs9 := Kd.R_slice hR1; obtain ⟨A9, c9, hv9⟩ := hs9; subst hv9; have HR1 := Aside0.mk hR1; have HG1 := Aside0.mk (HOi.out.grow (v1 := .slice A9 (cols ++ [(⟨kx, bits .and .u16 (bits .and .u16 (mk : Int) 496) 240 == 0, bits .and .u16 (mk : Int) 496, wr.heap.size + 1⟩ : Col)]).length c9) (by first | exact HBw.out | exact HBw.out.drew) hB1 hG1 HNg.out); have HK1 := Aside0.mk (Kd.R_over (by first | exact HKw.out | exact Kd.R_drew HKw.out) (by first | exact HRw.out | exact Kd.R_drew HRw.out) (by decide) hG1); have hcg1 := blk_cell HG1.out.1; have hfg1 := blk_frozen HG1.out.1 0; have hG9 := hG1; have hn1 := HNa.out; have hn2 := HNk.out; have y0 := cell_grown hG9 hn1 (W := W3.drew) q0; have y1 := cell_grown hG9 hn1 (W := W3.drew) q1; have y2 := cell_grown hG9 hn1 (W := W3.drew) q2; have y3 := cell_grown hG9 hn1 (W := W3.drew) q3; have y4 := cell_grown hG9 hn1 (W := W3.drew) q4; have y5 := cell_grown hG9 hn1 (W := W3.drew) q5; have y6 := cell_grown hG9 hn2 (W := W3.drew) q6; clear hR1 hB1 hG1))
                        refine hK.out _ _ ?_ (fun hHeld25 => ?_)
                        · (try dsimp only); first | done | ((refine ⟨?_, ?_, ?_, ?_, ?_, ?_, ?_⟩ <;> first | assumption | exact far_keep (by assumption) (by assumption) | exact alloc_drew_keep (by assumption) | exact cell_grown (by assumption) (by assumption) (by assumption) | exact far_keep (by assumption) (by assumption) | (go_keep; done)))
                        clear hK K hHeld24
                        try simp only [Act.put, List.setIfInBounds_toArray, List.set_cons_zero, List.set_cons_succ]
                        refine wpAnyH_take (i := 14) (oi := { dst := some 90, op := Op.nilCheck (Operand.tmp 76), type := 0, pos := "collate.go:96", after := #[{ on := 0, ground := Ground.data }, { on := 0, ground := Ground.phase }, { on := 1, ground := Ground.phase }, { on := 2, ground := Ground.phase }, { on := 3, ground := Ground.phase }, { on := 4, ground := Ground.phase }, { on := 5, ground := Ground.phase }, { on := 6, ground := Ground.phase }, { on := 7, ground := Ground.phase }, { on := 8, ground := Ground.phase }, { on := 9, ground := Ground.phase }, { on := 10, ground := Ground.phase }, { on := 11, ground := Ground.phase }, { on := 12, ground := Ground.phase }, { on := 13, ground := Ground.phase }], guard := none }) (v := ?_) rfl (by kernel_rfl) (by kernel_rfl) (by kernel_rfl) (fun _ _ _ h => h) (Or.inl ⟨by rfl, ?yields⟩) (by assumption) ?_
                        case yields => (intro w hSw; (try dsimp only at hSw); go_simp; try with_reducible rfl)
                        try simp only [Act.put, List.setIfInBounds_toArray, List.set_cons_zero, List.set_cons_succ]
                        refine wpAnyH_take (i := 15) (oi := { dst := some 91, op := Op.fieldAddr 69 (Operand.tmp 90) 0, type := 0, pos := "collate.go:96", after := #[{ on := 14, ground := Ground.data }, { on := 0, ground := Ground.phase }, { on := 1, ground := Ground.phase }, { on := 2, ground := Ground.phase }, { on := 3, ground := Ground.phase }, { on := 4, ground := Ground.phase }, { on := 5, ground := Ground.phase }, { on := 6, ground := Ground.phase }, { on := 7, ground := Ground.phase }, { on := 8, ground := Ground.phase }, { on := 9, ground := Ground.phase }, { on := 10, ground := Ground.phase }, { on := 11, ground := Ground.phase }, { on := 12, ground := Ground.phase }, { on := 13, ground := Ground.phase }], guard := none }) (v := ?_) rfl (by kernel_rfl) (by kernel_rfl) (by kernel_rfl) (fun _ _ _ h => h) (Or.inl ⟨by rfl, ?yields⟩) (by assumption) ?_
                        case yields => (intro w hSw; (try dsimp only at hSw); go_simp; try with_reducible rfl)
                        try simp only [Act.put, List.setIfInBounds_toArray, List.set_cons_zero, List.set_cons_succ]
                        refine wpAnyH_ready (rs := [16]) (by kernel_rfl) (by simp) ?_
                        refine AllReadyH.cons (o := { dst := none, op := Op.store 67 (Operand.tmp 91) (Operand.tmp 89), type := 0, pos := "collate.go:96", after := #[{ on := 15, ground := Ground.data }, { on := 13, ground := Ground.data }, { on := 13, ground := Ground.chain }, { on := 0, ground := Ground.phase }, { on := 1, ground := Ground.phase }, { on := 2, ground := Ground.phase }, { on := 3, ground := Ground.phase }, { on := 4, ground := Ground.phase }, { on := 5, ground := Ground.phase }, { on := 6, ground := Ground.phase }, { on := 7, ground := Ground.phase }, { on := 8, ground := Ground.phase }, { on := 9, ground := Ground.phase }, { on := 10, ground := Ground.phase }, { on := 11, ground := Ground.phase }, { on := 12, ground := Ground.phase }, { on := 13, ground := Ground.phase }], guard := none }) rfl (fun K hK => ?_) ?_
                        · go_simp
                          refine hK.out _ _ ?_ (fun hHeld26 => ?_)
                          · (try dsimp only); first | done | ((refine ⟨?_, ?_, ?_, ?_, ?_, ?_, ?_⟩ <;> first | assumption | exact far_keep (by assumption) (by assumption) | exact alloc_drew_keep (by assumption) | exact cell_grown (by assumption) (by assumption) (by assumption) | exact far_keep (by assumption) (by assumption) | (go_keep; done)))
                          clear hK K hHeld25
                          try simp only [Act.put, List.setIfInBounds_toArray, List.set_cons_zero, List.set_cons_succ]
                          refine wpAnyH_done (by kernel_rfl) ?_ _
                          go_wp2
                          go_roundw
                          case rel => exact ⟨i + 1, .slice A9 (cols.length + 1) c9, cols ++ [⟨kx, bits .and .u16 (bits .and .u16 (mk : Int) 496) 240 == 0, bits .and .u16 (mk : Int) 496, wr.heap.size + 1⟩], by go_num, HLT.out, ⟨by have hh := HG1.out.2; rw [List.length_append] at hh; exact hh⟩, ⟨by have hh := HR1.out; rw [List.length_append] at hh; exact Kd.R_set hh HG1.out.1 (by decide) 0 _⟩, ⟨by rw [take_next K i HLT.out, HK.out]; exact ColsOf.snoc HCi.out _ _ rfl (by unfold kindI; rw [HMK.out]) (by unfold kindI; rw [HMK.out])⟩, ⟨Kd.R_set HK1.out HG1.out.1 (by decide) 0 _⟩, ⟨all_next HLT.out HK.out HMK.out HT.out HAi.out⟩⟩
                          case measure => simp [intOf]; omega
                        exact AllReadyH.nil
                      exact AllReadyH.nil
                    exact AllReadyH.nil
                  exact AllReadyH.nil
                exact AllReadyH.nil
              refine AllReadyH.cons (o := { dst := some 86, op := Op.makeFunc (Fn.func 55) #[] #[Operand.tmp 9], type := 42, pos := "collate.go:96", after := #[], guard := none }) rfl (fun K hK => ?_) ?_
              · go_simp
                refine hK.out _ _ ?_ (fun hHeld27 => ?_)
                · (try dsimp only); first | done | ((refine ⟨?_, ?_, ?_, ?_, ?_, ?_, ?_⟩ <;> first | assumption | exact far_keep (by assumption) (by assumption) | exact alloc_drew_keep (by assumption) | exact cell_grown (by assumption) (by assumption) (by assumption) | exact far_keep (by assumption) (by assumption) | (go_keep; done)))
                clear hK K hHeld0
                try simp only [Act.put, List.setIfInBounds_toArray, List.set_cons_zero, List.set_cons_succ]
                refine wpAnyH_ready (rs := [4, 9]) (by kernel_rfl) (by simp) ?_
                refine AllReadyH.cons (o := { dst := some 80, op := Op.load 67 (Operand.tmp 79), type := 67, pos := "collate.go:96", after := #[{ on := 3, ground := Ground.data }], guard := none }) rfl (fun K hK => ?_) ?_
                · go_simp
                  refine hK.out _ _ ?_ (fun hHeld28 => ?_)
                  · (try dsimp only); first | done | ((refine ⟨?_, ?_, ?_, ?_, ?_, ?_, ?_⟩ <;> first | assumption | exact far_keep (by assumption) (by assumption) | exact alloc_drew_keep (by assumption) | exact cell_grown (by assumption) (by assumption) (by assumption) | exact far_keep (by assumption) (by assumption) | (go_keep; done)))
                  clear hK K hHeld27
                  try simp only [Act.put, List.setIfInBounds_toArray, List.set_cons_zero, List.set_cons_succ]
                  refine wpAnyH_ready (rs := [9]) (by kernel_rfl) (by simp) ?_
                  refine AllReadyH.cons (o := { dst := some 85, op := Op.makeFunc (Fn.func 53) #[] #[Operand.tmp 9], type := 43, pos := "collate.go:96", after := #[], guard := none }) rfl (fun K hK => ?_) ?_
                  · go_simp
                    refine hK.out _ _ ?_ (fun hHeld29 => ?_)
                    · (try dsimp only); first | done | ((refine ⟨?_, ?_, ?_, ?_, ?_, ?_, ?_⟩ <;> first | assumption | exact far_keep (by assumption) (by assumption) | exact alloc_drew_keep (by assumption) | exact cell_grown (by assumption) (by assumption) (by assumption) | exact far_keep (by assumption) (by assumption) | (go_keep; done)))
                    clear hK K hHeld28
                    try simp only [Act.put, List.setIfInBounds_toArray, List.set_cons_zero, List.set_cons_succ]
                    refine wpAnyH_take (i := 11) (oi := { dst := some 87, op := Op.build 71 #[(0, Operand.tmp 81), (1, Operand.tmp 84), (2, Operand.tmp 85), (3, Operand.tmp 86)], type := 71, pos := "collate.go:96", after := #[{ on := 5, ground := Ground.data }, { on := 8, ground := Ground.data }, { on := 9, ground := Ground.data }, { on := 10, ground := Ground.data }], guard := none }) (v := ?_) rfl (by kernel_rfl) (by kernel_rfl) (by kernel_rfl) (fun _ _ _ h => h) (Or.inl ⟨by rfl, ?yields⟩) (by assumption) ?_
                    case yields => (intro w hSw; (try dsimp only at hSw); go_simp; try with_reducible rfl)
                    try simp only [Act.put, List.setIfInBounds_toArray, List.set_cons_zero, List.set_cons_succ]
                    refine wpAnyH_ready (rs := [12]) (by kernel_rfl) (by simp) ?_
                    refine AllReadyH.cons (o := { dst := some 88, op := Op.buildSlice 67 1 #[(0, Operand.tmp 87)], type := 67, pos := "collate.go:96", after := #[{ on := 11, ground := Ground.data }], guard := none }) rfl (fun K hK => ?_) ?_
                    · go_simp
                      refine hK.out _ _ ?_ (fun hHeld30 => ?_)
                      · (try dsimp only); first | done | ((refine ⟨?_, ?_, ?_, ?_, ?_, ?_, ?_⟩ <;> first | assumption | exact far_keep (by assumption) (by assumption) | exact alloc_drew_keep (by assumption) | exact cell_grown (by assumption) (by assumption) (by assumption) | exact far_keep (by assumption) (by assumption) | (go_keep; done)))
                      clear hK K hHeld29
                      try simp only [Act.put, List.setIfInBounds_toArray, List.set_cons_zero, List.set_cons_succ]
                      refine wpAnyH_ready (rs := [13]) (by kernel_rfl) (by simp) ?_
                      refine AllReadyH.cons (o := { dst := some 89, op := Op.call { callee := Callee.builtin Builtin.append, args := #[Operand.tmp 80, Operand.tmp 88], argTypes := #[67, 67] }, type := 67, pos := "collate.go:96", after := #[{ on := 4, ground := Ground.data }, { on := 12, ground := Ground.data }], guard := none }) rfl (fun K hK => ?_) ?_
                      · ((rw [drew_alloc_]; refine Kd.R_append_step kCol (w.heap.size + 1) rfl (.tmp 80) (.tmp 88) 67 71 (.agg #[.int .i64 0, .int .i64 0, .int .i64 0, .int .i64 0, .int .u16 0, .bool false, .bool false, .nilFunc, .nilFunc]) 64 rfl Tryd.underlying67 infoCol rfl (by decide) (by omega) v cols ⟨kx, bits .and .u16 (bits .and .u16 (mk : Int) 496) 240 == 0, bits .and .u16 (mk : Int) 496, wr.heap.size + 1⟩ _ (fun _ => True) (fun k => k = wr.heap.size + 1) (by simp [Act.eval, Act.put]) (by simp [Act.eval, Act.put]) ⟨by simp [Col.cells, HMK.out], HBk.out, rfl, Nat.succ_le_succ (Nat.le_of_lt HOi.out.size)⟩ (by rintro k rfl; exact ⟨trivial, HNk.out⟩) (fun _ _ => trivial) (by first | exact HRw.out | exact Kd.R_drew HRw.out) (Below.refl _ _) (by have hh := HS.out; have hh2 := HOi.out.size; simp; omega) (HLC.out) (fun v1 w1 hR1 hB1 hG1 _ => ?_); have hs9 := Kd.R_slice hR1; obtain ⟨A9, c9, hv9⟩ := hs9; subst hv9; have HR1 := Aside0.mk hR1; have HG1 := Aside0.mk (HOi.out.grow (v1 := .slice A9 (cols ++ [(⟨kx, bits .and .u16 (bits .and .u16 (mk : Int) 496) 240 == 0, bits .and .u16 (mk : Int) 496, wr.heap.size + 1⟩ : Col)]).length c9) (by first | exact HBw.out | exact HBw.out.drew) hB1 hG1 HNg.out); have HK1 := Aside0.mk (Kd.R_over (by first | exact HKw.out | exact Kd.R_drew HKw.out) (by first | exact HRw.out | exact Kd.R_drew HRw.out) (by decide) hG1); have hcg1 := blk_cell HG1.out.1; have hfg1 := blk_frozen HG1.out.1 0; have hG9 := hG1; have hn1 := HNa.out; have hn2 := HNk.out; have y0 := cell_grown hG9 hn1 (W := W3.drew) q0; have y1 := cell_grown hG9 hn1 (W := W3.drew) q1; have y2 := cell_grown hG9 hn1 (W := W3.drew) q2; have y3 := cell_grown hG9 hn1 (W := W3.drew) q3; have y4 := cell_grown hG9 hn1 (W := W3.drew) q4; have y5 := cell_grown hG9 hn1 (W := W3.drew) q5; have y6 := cell_grown hG9 hn2 (W := W3.drew) q6; clear hR1 hB1 hG1))
                        refine hK.out _ _ ?_ (fun hHeld31 => ?_)
                        · (try dsimp only); first | done | ((refine ⟨?_, ?_, ?_, ?_, ?_, ?_, ?_⟩ <;> first | assumption | exact far_keep (by assumption) (by assumption) | exact alloc_drew_keep (by assumption) | exact cell_grown (by assumption) (by assumption) (by assumption) | exact far_keep (by assumption) (by assumption) | (go_keep; done)))
                        clear hK K hHeld30
                        try simp only [Act.put, List.setIfInBounds_toArray, List.set_cons_zero, List.set_cons_succ]
                        refine wpAnyH_take (i := 14) (oi := { dst := some 90, op := Op.nilCheck (Operand.tmp 76), type := 0, pos := "collate.go:96", after := #[{ on := 0, ground := Ground.data }, { on := 0, ground := Ground.phase }, { on := 1, ground := Ground.phase }, { on := 2, ground := Ground.phase }, { on := 3, ground := Ground.phase }, { on := 4, ground := Ground.phase }, { on := 5, ground := Ground.phase }, { on := 6, ground := Ground.phase }, { on := 7, ground := Ground.phase }, { on := 8, ground := Ground.phase }, { on := 9, ground := Ground.phase }, { on := 10, ground := Ground.phase }, { on := 11, ground := Ground.phase }, { on := 12, ground := Ground.phase }, { on := 13, ground := Ground.phase }], guard := none }) (v := ?_) rfl (by kernel_rfl) (by kernel_rfl) (by kernel_rfl) (fun _ _ _ h => h) (Or.inl ⟨by rfl, ?yields⟩) (by assumption) ?_
                        case yields => (intro w hSw; (try dsimp only at hSw); go_simp; try with_reducible rfl)
                        try simp only [Act.put, List.setIfInBounds_toArray, List.set_cons_zero, List.set_cons_succ]
                        refine wpAnyH_take (i := 15) (oi := { dst := some 91, op := Op.fieldAddr 69 (Operand.tmp 90) 0, type := 0, pos := "collate.go:96", after := #[{ on := 14, ground := Ground.data }, { on := 0, ground := Ground.phase }, { on := 1, ground := Ground.phase }, { on := 2, ground := Ground.phase }, { on := 3, ground := Ground.phase }, { on := 4, ground := Ground.phase }, { on := 5, ground := Ground.phase }, { on := 6, ground := Ground.phase }, { on := 7, ground := Ground.phase }, { on := 8, ground := Ground.phase }, { on := 9, ground := Ground.phase }, { on := 10, ground := Ground.phase }, { on := 11, ground := Ground.phase }, { on := 12, ground := Ground.phase }, { on := 13, ground := Ground.phase }], guard := none }) (v := ?_) rfl (by kernel_rfl) (by kernel_rfl) (by kernel_rfl) (fun _ _ _ h => h) (Or.inl ⟨by rfl, ?yields⟩) (by assumption) ?_
                        case yields => (intro w hSw; (try dsimp only at hSw); go_simp; try with_reducible rfl)
                        try simp only [Act.put, List.setIfInBounds_toArray, List.set_cons_zero, List.set_cons_succ]
                        refine wpAnyH_ready (rs := [16]) (by kernel_rfl) (by simp) ?_
                        refine AllReadyH.cons (o := { dst := none, op := Op.store 67 (Operand.tmp 91) (Operand.tmp 89), type := 0, pos := "collate.go:96", after := #[{ on := 15, ground := Ground.data }, { on := 13, ground := Ground.data }, { on := 13, ground := Ground.chain }, { on := 0, ground := Ground.phase }, { on := 1, ground := Ground.phase }, { on := 2, ground := Ground.phase }, { on := 3, ground := Ground.phase }, { on := 4, ground := Ground.phase }, { on := 5, ground := Ground.phase }, { on := 6, ground := Ground.phase }, { on := 7, ground := Ground.phase }, { on := 8, ground := Ground.phase }, { on := 9, ground := Ground.phase }, { on := 10, ground := Ground.phase }, { on := 11, ground := Ground.phase }, { on := 12, ground := Ground.phase }, { on := 13, ground := Ground.phase }], guard := none }) rfl (fun K hK => ?_) ?_
                        · go_simp
                          refine hK.out _ _ ?_ (fun hHeld32 => ?_)
                          · (try dsimp only); first | done | ((refine ⟨?_, ?_, ?_, ?_, ?_, ?_, ?_⟩ <;> first | assumption | exact far_keep (by assumption) (by assumption) | exact alloc_drew_keep (by assumption) | exact cell_grown (by assumption) (by assumption) (by assumption) | exact far_keep (by assumption) (by assumption) | (go_keep; done)))
                          clear hK K hHeld31
                          try simp only [Act.put, List.setIfInBounds_toArray, List.set_cons_zero, List.set_cons_succ]
                          refine wpAnyH_done (by kernel_rfl) ?_ _
                          go_wp2
                          go_roundw
                          case rel => exact ⟨i + 1, .slice A9 (cols.length + 1) c9, cols ++ [⟨kx, bits .and .u16 (bits .and .u16 (mk : Int) 496) 240 == 0, bits .and .u16 (mk : Int) 496, wr.heap.size + 1⟩], by go_num, HLT.out, ⟨by have hh := HG1.out.2; rw [List.length_append] at hh; exact hh⟩, ⟨by have hh := HR1.out; rw [List.length_append] at hh; exact Kd.R_set hh HG1.out.1 (by decide) 0 _⟩, ⟨by rw [take_next K i HLT.out, HK.out]; exact ColsOf.snoc HCi.out _ _ rfl (by unfold kindI; rw [HMK.out]) (by unfold kindI; rw [HMK.out])⟩, ⟨Kd.R_set HK1.out HG1.out.1 (by decide) 0 _⟩, ⟨all_next HLT.out HK.out HMK.out HT.out HAi.out⟩⟩
                          case measure => simp [intOf]; omega
                        exact AllReadyH.nil
                      exact AllReadyH.nil
                    exact AllReadyH.nil
                  exact AllReadyH.nil
                refine AllReadyH.cons (o := { dst := some 85, op := Op.makeFunc (Fn.func 53) #[] #[Operand.tmp 9], type := 43, pos := "collate.go:96", after := #[], guard := none }) rfl (fun K hK => ?_) ?_
                · go_simp
                  refine hK.out _ _ ?_ (fun hHeld33 => ?_)
                  · (try dsimp only); first | done | ((refine ⟨?_, ?_, ?_, ?_, ?_, ?_, ?_⟩ <;> first | assumption | exact far_keep (by assumption) (by assumption) | exact alloc_drew_keep (by assumption) | exact cell_grown (by assumption) (by assumption) (by assumption) | exact far_keep (by assumption) (by assumption) | (go_keep; done)))
                  clear hK K hHeld27
                  try simp only [Act.put, List.setIfInBounds_toArray, List.set_cons_zero, List.set_cons_succ]
                  refine wpAnyH_take (i := 11) (oi := { dst := some 87, op := Op.build 71 #[(0, Operand.tmp 81), (1, Operand.tmp 84), (2, Operand.tmp 85), (3, Operand.tmp 86)], type := 71, pos := "collate.go:96", after := #[{ on := 5, ground := Ground.data }, { on := 8, ground := Ground.data }, { on := 9, ground := Ground.data }, { on := 10, ground := Ground.data }], guard := none }) (v := ?_) rfl (by kernel_rfl) (by kernel_rfl) (by kernel_rfl) (fun _ _ _ h => h) (Or.inl ⟨by rfl, ?yields⟩) (by assumption) ?_
                  case yields => (intro w hSw; (try dsimp only at hSw); go_simp; try with_reducible rfl)
                  try simp only [Act.put, List.setIfInBounds_toArray, List.set_cons_zero, List.set_cons_succ]
                  refine wpAnyH_ready (rs := [4, 12]) (by kernel_rfl) (by simp) ?_
                  refine AllReadyH.cons (o := { dst := some 80, op := Op.load 67 (Operand.tmp 79), type := 67, pos := "collate.go:96", after := #[{ on := 3, ground := Ground.data }], guard := none }) rfl (fun K hK => ?_) ?_
                  · go_simp
                    refine hK.out _ _ ?_ (fun hHeld34 => ?_)
                    · (try dsimp only); first | done | ((refine ⟨?_, ?_, ?_, ?_, ?_, ?_, ?_⟩ <;> first | assumption | exact far_keep (by assumption) (by assumption) | exact alloc_drew_keep (by assumption) | exact cell_grown (by assumption) (by assumption) (by assumption) | exact far_keep (by assumption) (by assumption) | (go_keep; done)))
                    clear hK K hHeld33
                    try simp only [Act.put, List.setIfInBounds_toArray, List.set_cons_zero, List.set_cons_succ]
                    refine wpAnyH_ready (rs := [12]) (by kernel_rfl) (by simp) ?_
                    refine AllReadyH.cons (o := { dst := some 88, op := Op.buildSlice 67 1 #[(0, Operand.tmp 87)], type := 67, pos := "collate.go:96", after := #[{ on := 11, ground := Ground.data }], guard := none }) rfl (fun K hK => ?_) ?_
                    · go_simp
                      refine hK.out _ _ ?_ (fun hHeld35 => ?_)
                      · (try dsimp only); first | done | ((refine ⟨?_, ?_, ?_, ?_, ?_, ?_, ?_⟩ <;> first | assumption | exact far_keep (by assumption) (by assumption) | exact alloc_drew_keep (by assumption) | exact cell_grown (by assumption) (by assumption) (by assumption) | exact far_keep (by assumption) (by assumption) | (go_keep; done)))
                      clear hK K hHeld34
                      try simp only [Act.put, List.setIfInBounds_toArray, List.set_cons_zero, List.set_cons_succ]
                      refine wpAnyH_ready (rs := [13]) (by kernel_rfl) (by simp) ?_
                      refine AllReadyH.cons (o := { dst := some 89, op := Op.call { callee := Callee.builtin Builtin.append, args := #[Operand.tmp 80, Operand.tmp 88], argTypes := #[67, 67] }, type := 67, pos := "collate.go:96", after := #[{ on := 4, ground := Ground.data }, { on := 12, ground := Ground.data }], guard := none }) rfl (fun K hK => ?_) ?_
                      · ((rw [drew_alloc_]; refine Kd.R_append_step kCol (w.heap.size + 1) rfl (.tmp 80) (.tmp 88) 67 71 (.agg #[.int .i64 0, .int .i64 0, .int .i64 0, .int .i64 0, .int .u16 0, .bool false, .bool false, .nilFunc, .nilFunc]) 64 rfl Tryd.underlying67 infoCol rfl (by decide) (by omega) v cols ⟨kx, bits .and .u16 (bits .and .u16 (mk : Int) 496) 240 == 0, bits .and .u16 (mk : Int) 496, wr.heap.size + 1⟩ _ (fun _ => True) (fun k => k = wr.heap.size + 1) (by simp [Act.eval, Act.put]) (by simp [Act.eval, Act.put]) ⟨by simp [Col.cells, HMK.out], HBk.out, rfl, Nat.succ_le_succ (Nat.le_of_lt HOi.out.size)⟩ (by rintro k rfl; exact ⟨trivial, HNk.out⟩) (fun _ _ => trivial) (by first | exact HRw.out | exact Kd.R_drew HRw.out) (Below.refl _ _) (by have hh := HS.out; have hh2 := HOi.out.size; simp; omega) (HLC.out) (fun v1 w1 hR1 hB1 hG1 _ => ?_); have hs9 := Kd.R_slice hR1; obtain ⟨A9, c9, hv9⟩ := hs9; subst hv9; have HR1 := Aside0.mk hR1; have HG1 := Aside0.mk (HOi.out.grow (v1 := .slice A9 (cols ++ [(⟨kx, bits .and .u16 (bits .and .u16 (mk : Int) 496) 240 == 0, bits .and .u16 (mk : Int) 496, wr.heap.size + 1⟩ : Col)]).length c9) (by first | exact HBw.out | exact HBw.out.drew) hB1 hG1 HNg.out); have HK1 := Aside0.mk (Kd.R_over (by first | exact HKw.out | exact Kd.R_drew HKw.out) (by first | exact HRw.out | exact Kd.R_drew HRw.out) (by decide) hG1); have hcg1 := blk_cell HG1.out.1; have hfg1 := blk_frozen HG1.out.1 0; have hG9 := hG1; have hn1 := HNa.out; have hn2 := HNk.out; have y0 := cell_grown hG9 hn1 (W := W3.drew) q0; have y1 := cell_grown hG9 hn1 (W := W3.drew) q1; have y2 := cell_grown hG9 hn1 (W := W3.drew) q2; have y3 := cell_grown hG9 hn1 (W := W3.drew) q3; have y4 := cell_grown hG9 hn1 (W := W3.drew) q4; have y5 := cell_grown hG9 hn1 (W := W3.drew) q5; have y6 := cell_grown hG9 hn2 (W := W3.drew) q6; clear hR1 hB1 hG1))
                        refine hK.out _ _ ?_ (fun hHeld36 => ?_)
                        · (try dsimp only); first | done | ((refine ⟨?_, ?_, ?_, ?_, ?_, ?_, ?_⟩ <;> first | assumption | exact far_keep (by assumption) (by assumption) | exact alloc_drew_keep (by assumption) | exact cell_grown (by assumption) (by assumption) (by assumption) | exact far_keep (by assumption) (by assumption) | (go_keep; done)))
                        clear hK K hHeld35
                        try simp only [Act.put, List.setIfInBounds_toArray, List.set_cons_zero, List.set_cons_succ]
                        refine wpAnyH_take (i := 14) (oi := { dst := some 90, op := Op.nilCheck (Operand.tmp 76), type := 0, pos := "collate.go:96", after := #[{ on := 0, ground := Ground.data }, { on := 0, ground := Ground.phase }, { on := 1, ground := Ground.phase }, { on := 2, ground := Ground.phase }, { on := 3, ground := Ground.phase }, { on := 4, ground := Ground.phase }, { on := 5, ground := Ground.phase }, { on := 6, ground := Ground.phase }, { on := 7, ground := Ground.phase }, { on := 8, ground := Ground.phase }, { on := 9, ground := Ground.phase }, { on := 10, ground := Ground.phase }, { on := 11, ground := Ground.phase }, { on := 12, ground := Ground.phase }, { on := 13, ground := Ground.phase }], guard := none }) (v := ?_) rfl (by kernel_rfl) (by kernel_rfl) (by kernel_rfl) (fun _ _ _ h => h) (Or.inl ⟨by rfl, ?yields⟩) (by assumption) ?_
                        case yields => (intro w hSw; (try dsimp only at hSw); go_simp; try with_reducible rfl)
                        try simp only [Act.put, List.setIfInBounds_toArray, List.set_cons_zero, List.set_cons_succ]
                        refine wpAnyH_take (i := 15) (oi := { dst := some 91, op := Op.fieldAddr 69 (Operand.tmp 90) 0, type := 0, pos := "collate.go:96", after := #[{ on := 14, ground := Ground.data }, { on := 0, ground := Ground.phase }, { on := 1, ground := Ground.phase }, { on := 2, ground := Ground.phase }, { on := 3, ground := Ground.phase }, { on := 4, ground := Ground.phase }, { on := 5, ground := Ground.phase }, { on := 6, ground := Ground.phase }, { on := 7, ground := Ground.phase }, { on := 8, ground := Ground.phase }, { on := 9, ground := Ground.phase }, { on := 10, ground := Ground.phase }, { on := 11, ground := Ground.phase }, { on := 12, ground := Ground.phase }, { on := 13, ground := Ground.phase }], guard := none }) (v := ?_) rfl (by kernel_rfl) (by kernel_rfl) (by kernel_rfl) (fun _ _ _ h => h) (Or.inl ⟨by rfl, ?yields⟩) (by assumption) ?_
                        case yields => (intro w hSw; (try dsimp only at hSw); go_simp; try with_reducible rfl)
                        try simp only [Act.put, List.setIfInBounds_toArray, List.set_cons_zero, List.set_cons_succ]
                        refine wpAnyH_ready (rs := [16]) (by kernel_rfl) (by simp) ?_
                        refine AllReadyH.cons (o := { dst := none, op := Op.store 67 (Operand.tmp 91) (Operand.tmp 89), type := 0, pos := "collate.go:96", after := #[{ on := 15, ground := Ground.data }, { on := 13, ground := Ground.data }, { on := 13, ground := Ground.chain }, { on := 0, ground := Ground.phase }, { on := 1, ground := Ground.phase }, { on := 2, ground := Ground.phase }, { on := 3, ground := Ground.phase }, { on := 4, ground := Ground.phase }, { on := 5, ground := Ground.phase }, { on := 6, ground := Ground.phase }, { on := 7, ground := Ground.phase }, { on := 8, ground := Ground.phase }, { on := 9, ground := Ground.phase }, { on := 10, ground := Ground.phase }, { on := 11, ground := Ground.phase }, { on := 12, ground := Ground.phase }, { on := 13, ground := Ground.phase }], guard := none }) rfl (fun K hK => ?_) ?_
                        · go_simp
                          refine hK.out _ _ ?_ (fun hHeld37 => ?_)
                          · (try dsimp only); first | done | ((refine ⟨?_, ?_, ?_, ?_, ?_, ?_, ?_⟩ <;> first | assumption | exact far_keep (by assumption) (by assumption) | exact alloc_drew_keep (by assumption) | exact cell_grown (by assumption) (by assumption) (by assumption) | exact far_keep (by assumption) (by assumption) | (go_keep; done)))
                          clear hK K hHeld36
                          try simp only [Act.put, List.setIfInBounds_toArray, List.set_cons_zero, List.set_cons_succ]
                          refine wpAnyH_done (by kernel_rfl) ?_ _
                          go_wp2
                          go_roundw
                          case rel => exact ⟨i + 1, .slice A9 (cols.length + 1) c9, cols ++ [⟨kx, bits .and .u16 (bits .and .u16 (mk : Int) 496) 240 == 0, bits .and .u16 (mk : Int) 496, wr.heap.size + 1⟩], by go_num, HLT.out, ⟨by have hh := HG1.out.2; rw [List.length_append] at hh; exact hh⟩, ⟨by have hh := HR1.out; rw [List.length_append] at hh; exact Kd.R_set hh HG1.out.1 (by decide) 0 _⟩, ⟨by rw [take_next K i HLT.out, HK.out]; exact ColsOf.snoc HCi.out _ _ rfl (by unfold kindI; rw [HMK.out]) (by unfold kindI; rw [HMK.out])⟩, ⟨Kd.R_set HK1.out HG1.out.1 (by decide) 0 _⟩, ⟨all_next HLT.out HK.out HMK.out HT.out HAi.out⟩⟩
                          case measure => simp [intOf]; omega
                        exact AllReadyH.nil
                      exact AllReadyH.nil
                    exact AllReadyH.nil
                  refine AllReadyH.cons (o := { dst := some 88, op := Op.buildSlice 67 1 #[(0, Operand.tmp 87)], type := 67, pos := "collate.go:96", after := #[{ on := 11, ground := Ground.data }], guard := none }) rfl (fun K hK => ?_) ?_
                  · go_simp
                    refine hK.out _ _ ?_ (fun hHeld38 => ?_)
                    · (try dsimp only); first | done | ((refine ⟨?_, ?_, ?_, ?_, ?_, ?_, ?_⟩ <;> first | assumption | exact far_keep (by assumption) (by assumption) | exact alloc_drew_keep (by assumption) | exact cell_grown (by assumption) (by assumption) (by assumption) | exact far_keep (by assumption) (by assumption) | (go_keep; done)))
                    clear hK K hHeld33
                    try simp only [Act.put, List.setIfInBounds_toArray, List.set_cons_zero, List.set_cons_succ]
                    refine wpAnyH_ready (rs := [4]) (by kernel_rfl) (by simp) ?_
                    refine AllReadyH.cons (o := { dst := some 80, op := Op.load 67 (Operand.tmp 79), type := 67, pos := "collate.go:96", after := #[{ on := 3, ground := Ground.data }], guard := none }) rfl (fun K hK => ?_) ?_
                    · go_simp
                      refine hK.out _ _ ?_ (fun hHeld39 => ?_)
                      · (try dsimp only); first | done | ((refine ⟨?_, ?_, ?_, ?_, ?_, ?_, ?_⟩ <;> first | assumption | exact far_keep (by assumption) (by assumption) | exact alloc_drew_keep (by assumption) | exact cell_grown (by assumption) (by assumption) (by assumption) | exact far_keep (by assumption) (by assumption) | (go_keep; done)))
                      clear hK K hHeld38
                      try simp only [Act.put, List.setIfInBounds_toArray, List.set_cons_zero, List.set_cons_succ]
                      refine wpAnyH_ready (rs := [13]) (by kernel_rfl) (by simp) ?_
                      refine AllReadyH.cons (o := { dst := some 89, op := Op.call { callee := Callee.builtin Builtin.append, args := #[Operand.tmp 80, Operand.tmp 88], argTypes := #[67, 67] }, type := 67, pos := "collate.go:96", after := #[{ on := 4, ground := Ground.data }, { on := 12, ground := Ground.data }], guard := none }) rfl (fun K hK => ?_) ?_
                      · ((rw [drew_alloc_]; refine Kd.R_append_step kCol (w.heap.size + 1) rfl (.tmp 80) (.tmp 88) 67 71 (.agg #[.int .i64 0, .int .i64 0, .int .i64 0, .int .i64 0, .int .u16 0, .bool false, .bool false, .nilFunc, .nilFunc]) 64 rfl Tryd.underlying67 infoCol rfl (by decide) (by omega) v cols ⟨kx, bits .and .u16 (bits .and .u16 (mk : Int) 496) 240 == 0, bits .and .u16 (mk : Int) 496, wr.heap.size + 1⟩ _ (fun _ => True) (fun k => k = wr.heap.size + 1) (by simp [Act.eval, Act.put]) (by simp [Act.eval, Act.put]) ⟨by simp [Col.cells, HMK.out], HBk.out, rfl, Nat.succ_le_succ (Nat.le_of_lt HOi.out.size)⟩ (by rintro k rfl; exact ⟨trivial, HNk.out⟩) (fun _ _ => trivial) (by first | exact HRw.out | exact Kd.R_drew HRw.out) (Below.refl _ _) (by have hh := HS.out; have hh2 := HOi.out.size; simp; omega) (HLC.out) (fun v1 w1 hR1 hB1 hG1 _ => ?_); have hs9 := Kd.R_slice hR1; obtain ⟨A9, c9, hv9⟩ := hs9; subst hv9; have HR1 := Aside0.mk hR1; have HG1 := Aside0.mk (HOi.out.grow (v1 := .slice A9 (cols ++ [(⟨kx, bits .and .u16 (bits .and .u16 (mk : Int) 496) 240 == 0, bits .and .u16 (mk : Int) 496, wr.heap.size + 1⟩ : Col)]).length c9) (by first | exact HBw.out | exact HBw.out.drew) hB1 hG1 HNg.out); have HK1 := Aside0.mk (Kd.R_over (by first | exact HKw.out | exact Kd.R_drew HKw.out) (by first | exact HRw.out | exact Kd.R_drew HRw.out) (by decide) hG1); have hcg1 := blk_cell HG1.out.1; have hfg1 := blk_frozen HG1.out.1 0; have hG9 := hG1; have hn1 := HNa.out; have hn2 := HNk.out; have y0 := cell_grown hG9 hn1 (W := W3.drew) q0; have y1 := cell_grown hG9 hn1 (W := W3.drew) q1; have y2 := cell_grown hG9 hn1 (W := W3.drew) q2; have y3 := cell_grown hG9 hn1 (W := W3.drew) q3; have y4 := cell_grown hG9 hn1 (W := W3.drew) q4; have y5 := cell_grown hG9 hn1 (W := W3.drew) q5; have y6 := cell_grown hG9 hn2 (W := W3.drew) q6; clear hR1 hB1 hG1))
                        refine hK.out _ _ ?_ (fun hHeld40 => ?_)
                        · (try dsimp only); first | done | ((refine ⟨?_, ?_, ?_, ?_, ?_, ?_, ?_⟩ <;> first | assumption | exact far_keep (by assumption) (by assumption) | exact alloc_drew_keep (by assumption) | exact cell_grown (by assumption) (by assumption) (by assumption) | exact far_keep (by assumption) (by assumption) | (go_keep; done)))
                        clear hK K hHeld39
                        try simp only [Act.put, List.setIfInBounds_toArray, List.set_cons_zero, List.set_cons_succ]
                        refine wpAnyH_take (i := 14) (oi := { dst := some 90, op := Op.nilCheck (Operand.tmp 76), type := 0, pos := "collate.go:96", after := #[{ on := 0, ground := Ground.data }, { on := 0, ground := Ground.phase }, { on := 1, ground := Ground.phase }, { on := 2, ground := Ground.phase }, { on := 3, ground := Ground.phase }, { on := 4, ground := Ground.phase }, { on := 5, ground := Ground.phase }, { on := 6, ground := Ground.phase }, { on := 7, ground := Ground.phase }, { on := 8, ground := Ground.phase }, { on := 9, ground := Ground.phase }, { on := 10, ground := Ground.phase }, { on := 11, ground := Ground.phase }, { on := 12, ground := Ground.phase }, { on := 13, ground := Ground.phase }], guard := none }) (v := ?_) rfl (by kernel_rfl) (by kernel_rfl) (by kernel_rfl) (fun _ _ _ h => h) (Or.inl ⟨by rfl, ?yields⟩) (by assumption) ?_
                        case yields => (intro w hSw; (try dsimp only at hSw); go_simp; try with_reducible rfl)
                        try simp only [Act.put, List.setIfInBounds_toArray, List.set_cons_zero, List.set_cons_succ]
                        refine wpAnyH_take (i := 15) (oi := { dst := some 91, op := Op.fieldAddr 69 (Operand.tmp 90) 0, type := 0, pos := "collate.go:96", after := #[{ on := 14, ground := Ground.data }, { on := 0, ground := Ground.phase }, { on := 1, ground := Ground.phase }, { on := 2, ground := Ground.phase }, { on := 3, ground := Ground.phase }, { on := 4, ground := Ground.phase }, { on := 5, ground := Ground.phase }, { on := 6, ground := Ground.phase }, { on := 7, ground := Ground.phase }, { on := 8, ground := Ground.phase }, { on := 9, ground := Ground.phase }, { on := 10, ground := Ground.phase }, { on := 11, ground := Ground.phase }, { on := 12, ground := Ground.phase }, { on := 13, ground := Ground.phase }], guard := none }) (v := ?_) rfl (by kernel_rfl) (by kernel_rfl) (by kernel_rfl) (fun _ _ _ h => h) (Or.inl ⟨by rfl, ?yields⟩) (by assumption) ?_
                        case yields => (intro w hSw; (try dsimp only at hSw); go_simp; try with_reducible rfl)
                        try simp only [Act.put, List.setIfInBounds_toArray, List.set_cons_zero, List.set_cons_succ]
                        refine wpAnyH_ready (rs := [16]) (by kernel_rfl) (by simp) ?_
                        refine AllReadyH.cons (o := { dst := none, op := Op.store 67 (Operand.tmp 91) (Operand.tmp 89), type := 0, pos := "collate.go:96", after := #[{ on := 15, ground := Ground.data }, { on := 13, ground := Ground.data }, { on := 13, ground := Ground.chain }, { on := 0, ground := Ground.phase }, { on := 1, ground := Ground.phase }, { on := 2, ground := Ground.phase }, { on := 3, ground := Ground.phase }, { on := 4, ground := Ground.phase }, { on := 5, ground := Ground.phase }, { on := 6, ground := Ground.phase }, { on := 7, ground := Ground.phase }, { on := 8, ground := Ground.phase }, { on := 9, ground := Ground.phase }, { on := 10, ground := Ground.phase }, { on := 11, ground := Ground.phase }, { on := 12, ground := Ground.phase }, { on := 13, ground := Ground.phase }], guard := none }) rfl (fun K hK => ?_) ?_
                        · go_simp
                          refine hK.out _ _ ?_ (fun hHeld41 => ?_)
                          · (try dsimp only); first | done | ((refine ⟨?_, ?_, ?_, ?_, ?_, ?_, ?_⟩ <;> first | assumption | exact far_keep (by assumption) (by assumption) | exact alloc_drew_keep (by assumption) | exact cell_grown (by assumption) (by assumption) (by assumption) | exact far_keep (by assumption) (by assumption) | (go_keep; done)))
                          clear hK K hHeld40
                          try simp only [Act.put, List.setIfInBounds_toArray, List.set_cons_zero, List.set_cons_succ]
                          refine wpAnyH_done (by kernel_rfl) ?_ _
                          go_wp2
                          go_roundw
                          case rel => exact ⟨i + 1, .slice A9 (cols.length + 1) c9, cols ++ [⟨kx, bits .and .u16 (bits .and .u16 (mk : Int) 496) 240 == 0, bits .and .u16 (mk : Int) 496, wr.heap.size + 1⟩], by go_num, HLT.out, ⟨by have hh := HG1.out.2; rw [List.length_append] at hh; exact hh⟩, ⟨by have hh := HR1.out; rw [List.length_append] at hh; exact Kd.R_set hh HG1.out.1 (by decide) 0 _⟩, ⟨by rw [take_next K i HLT.out, HK.out]; exact ColsOf.snoc HCi.out _ _ rfl (by unfold kindI; rw [HMK.out]) (by unfold kindI; rw [HMK.out])⟩, ⟨Kd.R_set HK1.out HG1.out.1 (by decide) 0 _⟩, ⟨all_next HLT.out HK.out HMK.out HT.out HAi.out⟩⟩
                          case measure => simp [intOf]; omega
                        exact AllReadyH.nil
                      exact AllReadyH.nil
                    exact AllReadyH.nil
                  exact AllReadyH.nil
                exact AllReadyH.nil
              exact AllReadyH.nil
          · have hge2 : i = K.length := by omega
            subst hge2
            go_wp2
            go_ret2
            refine .inr ⟨by simpa using HAi.out, g, rfl, ?_, HOi.out.gt, HOi.out.below⟩
            exact ⟨v, cols, HOi.out.blk, Kd.R_lower HRi.out (Nat.zero_le _), by simpa using HCi.out⟩
end Go.Proofs.YtnnoegjgaelafaaDoor.Pr
