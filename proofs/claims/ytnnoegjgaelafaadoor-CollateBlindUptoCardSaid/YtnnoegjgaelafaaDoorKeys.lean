/- The program's Keys of an order, over whatever is said of numeral's Compare. -/
import Derived.Test.YtnnoegjgaelafaaDoorCols
import Derived.Test.YtnnoegjgaelafaaDoorPrx15
namespace Go.Proofs.YtnnoegjgaelafaaDoor.Pr
open Go.RowKit Go.Proofs.YtnnoegjgaelafaaDoorW.PrintWords Go.Proofs.YtnnoegjgaelafaaDoorW.PrintLast
set_option linter.unusedVariables false
set_option linter.unusedSimpArgs false

/-- What of a line is compared as a key. -/
def partK (s : ByteArray) (t : Int) (k : Ky) : ByteArray := if (bits .and .u16 (kindI k) 240 == 0) then filtK k.f4 (textI s t k) else textI s t k
theorem filtK_len (m : Int) (s : ByteArray) : (filtK m s).size ≤ s.size := by unfold filtK; exact filtL_len _ _ _ _
theorem part_len (s : ByteArray) (t : Int) (k : Ky) : (partK s t k).size ≤ s.size := by
  unfold partK; split
  · exact Nat.le_trans (filtK_len _ _) (text_len s t k)
  · exact text_len s t k
set_option maxHeartbeats 4000000 in
set_option maxRecDepth 100000 in
theorem text_calls (s : ByteArray) (hs : s.size ≤ 1048576) (t : Int) (h1 : -1 ≤ t) (h2 : t ≤ 255) (k : Ky) (hk : Fit k) (c : Col) (hkey : c.key = k) (hfilt : c.filt = (bits .and .u16 (kindI k) 240 == 0)) (p : Addr) (w : World) (h : ColAt w p c) :
    Calls Tryd.prog 36 #[.pointer (some p), .string s, .int .i64 t] w fun e w' => e = .returned (.string (partK s t k)) ∧ Below w.heap.size w w' := by
  have hu := Tryd.underlying71
  have hu3 := Tryd.underlying37
  subst hkey
  have HS := Aside0.mk (span_calls s hs t h1 h2 c.key hk p w h.key)
  have htl := text_len s t c.key
  have HF := Aside0.mk (fun (W : World) (hb : Below w.heap.size w W) => filter_calls (textI s t c.key) (by omega) c.key p W (h.key.keep hb))
  have HQ := Aside0.mk h.filt
  have hsb := span_bounds s t h1 h2 c.key hk
  unfold partK
  unfold textI at HF ⊢
  rw [hfilt] at HQ
  clear h hfilt htl
  generalize spanI s t c.key = r at *
  obtain ⟨r1, r2⟩ := r
  simp only at hsb HF HS ⊢
  obtain ⟨b0, b1, b2⟩ := hsb
  cases hf : (bits .and .u16 (kindI c.key) 240 == 0)
  · rw [hf] at HQ
    simp only [Bool.false_eq_true, if_false]
    clear HF hf
    go_enter Tryd.func36, Tryd.ntmps36
    go_upto_region 2 with (first
      | (go_at_call 33; refine Calls.mono HS.out ?_; rintro e w1 ⟨rfl, hb1⟩; have HB := Aside0.mk hb1; clear hb1 HS))
    obtain ⟨W0, hW0⟩ : ∃ W0 : World, W0 = w1.alloc (.cells #[.int .i64 r1, .int .i64 r2] 37) := ⟨_, rfl⟩
    have hb0 : Below w1.heap.size w1 W0 := by rw [hW0]; exact (Below.refl _ _).alloc (Nat.le_refl _) _
    have z := (show W0.heap[w1.heap.size]? = some (.cells #[.int .i64 r1, .int .i64 r2] 37 (0, 0)) by rw [hW0]; exact heap_alloc_new _ _)
    replace HB := Aside0.mk (bstep HB.out hb0)
    rw [← hW0]
    clear hW0 hb0
    have z0 := blk_cell z 0
    have z1 := blk_cell z 1
    simp at z0 z1
    have xf := cell_stays HB.out HQ.out
    clear z
    go_wp2
    go_ret
    exact ⟨rfl, HB.out⟩
  · rw [hf] at HQ
    simp only [if_true]
    generalize filtK c.key.f4 (s.extract r1.toNat r2.toNat) = res at *
    go_enter Tryd.func36, Tryd.ntmps36
    go_upto_region 2 with (first
      | (go_at_call 33; refine Calls.mono HS.out ?_; rintro e w1 ⟨rfl, hb1⟩; have HB := Aside0.mk hb1; clear hb1 HS))
    obtain ⟨W0, hW0⟩ : ∃ W0 : World, W0 = w1.alloc (.cells #[.int .i64 r1, .int .i64 r2] 37) := ⟨_, rfl⟩
    have hb0 : Below w1.heap.size w1 W0 := by rw [hW0]; exact (Below.refl _ _).alloc (Nat.le_refl _) _
    have z := (show W0.heap[w1.heap.size]? = some (.cells #[.int .i64 r1, .int .i64 r2] 37 (0, 0)) by rw [hW0]; exact heap_alloc_new _ _)
    replace HB := Aside0.mk (bstep HB.out hb0)
    rw [← hW0]
    clear hW0 hb0
    have z0 := blk_cell z 0
    have z1 := blk_cell z 1
    simp at z0 z1
    have xf := cell_stays HB.out HQ.out
    clear z
    go_wp2_with (first
      | (go_at_call 39; refine Calls.mono (HF.out _ HB.out) ?_; rintro e w2 ⟨rfl, hb2⟩; replace HB := Aside0.mk (bstep HB.out hb2); clear hb2))
    go_ret
    exact ⟨rfl, HB.out⟩
/-- What is said of numeral's Compare: of which kinds, in which worlds, what it answers. -/
structure Cmp where
  G : World → Prop
  stay : ∀ {W W1 : World}, Below W.heap.size W W1 → G W → G W1
  ks : Int → Prop
  cmp : Int → ByteArray → ByteArray → Int
  rng : ∀ k a b, -1 ≤ cmp k a b ∧ cmp k a b ≤ 1
  calls : ∀ (k : Int) (a b : ByteArray) (W : World), ks k → a.size ≤ 1048576 → b.size ≤ 1048576 → G W → Calls Tryd.prog 54 #[.int .u16 k, .string a, .string b] W fun e w' => e = .returned (.int .i64 (cmp k a b)) ∧ Below W.heap.size W w'
theorem closure_calls (C : Cmp) (k : Int) (hk : C.ks k) (kb : Nat) (a b : ByteArray) (ha : a.size ≤ 1048576) (hb : b.size ≤ 1048576) (w : World) (hG : C.G w) (x : w.cell? ⟨kb, 0, none⟩ = some (.int .u16 k)) :
    Calls Tryd.prog 53 #[.string a, .string b, .pointer (some ⟨kb, 0, none⟩)] w fun e w' => e = .returned (.int .i64 (C.cmp k a b)) ∧ Below w.heap.size w w' := by
  have HC := Aside0.mk (C.calls k a b w hk ha hb hG)
  go_enter Tryd.func53, Tryd.ntmps53
  go_wp2_with (first
    | (go_at_call 54; refine Calls.mono HC.out ?_; rintro e w1 ⟨rfl, hb1⟩; have HB := Aside0.mk hb1; clear hb1))
  go_ret
  exact ⟨rfl, HB.out⟩
def modR (m : Int) : Bool := bits .and .u16 m 512 != 0
/-- What the keys say. -/
def keysL (C : Cmp) (a b : ByteArray) (t : Int) : List Ky → Int
  | [] => 0
  | k :: r => if C.cmp (kindI k) (partK a t k) (partK b t k) = 0 then keysL C a b t r else if modR k.f4 then -(C.cmp (kindI k) (partK a t k) (partK b t k)) else C.cmp (kindI k) (partK a t k) (partK b t k)
theorem keysL_cons (C : Cmp) (a b : ByteArray) (t : Int) (k : Ky) (r : List Ky) : keysL C a b t (k :: r) = if C.cmp (kindI k) (partK a t k) (partK b t k) = 0 then keysL C a b t r else if (bits .and .u16 k.f4 512 != 0) = true then -(C.cmp (kindI k) (partK a t k) (partK b t k)) else C.cmp (kindI k) (partK a t k) (partK b t k) := rfl
set_option maxHeartbeats 8000000 in
set_option maxRecDepth 100000 in
theorem keys_calls (C : Cmp) (a b : ByteArray) (ha : a.size ≤ 1048576) (hb : b.size ≤ 1048576) (K : List Ky) (hK : ∀ k ∈ K, Fit k) (hks : ∀ k ∈ K, C.ks (kindI k)) (t : Int) (h1 : -1 ≤ t) (h2 : t ≤ 255) (g : Nat) (last turned : Bool) (w : World) (ho : OrdW w g K t last turned) (hkl : K.length ≤ 16) (hG : C.G w) :
    Calls Tryd.prog 20 #[.pointer (some ⟨g, 0, none⟩), .string a, .string b] w fun e w' => e = .returned (.int .i64 (keysL C a b t K)) ∧ Below w.heap.size w w' := by
  have hu := Tryd.underlying69
  have hu2 := Tryd.underlying71
  have hu4 := Tryd.underlying67
  have hu5 := Tryd.underlying33
  have hinf := infoCol
  obtain ⟨A, c, cols, x0, x1, x2, x3, hlc, hC, hO⟩ := ord_cells ho
  clear ho x2 x3
  have X0 := Aside0.mk x0
  have X1 := Aside0.mk x1
  have HB0 : Aside0 (Below w.heap.size w w) := ⟨Below.refl _ _⟩
  go_enter Tryd.func20, Tryd.ntmps20
  go_wp2
  clear x0 x1
  go_loopw [17] (fun v wr => ∃ i : Nat, v = .int .i64 i ∧ i ≤ K.length ∧ Aside0 (keysL C a b t K = keysL C a b t (K.drop i)) ∧ Aside0 (Below w.heap.size w wr)) (fun v _ => K.length - (intOf v).toNat)
  case atStart => exact ⟨0, rfl, Nat.zero_le _, ⟨rfl⟩, HB0⟩
  case round =>
    clear HB0
    obtain ⟨i, rfl, hi, HQ, HB⟩ := hrel
    by_cases hlt : i < K.length
    · have HLT := Aside0.mk hlt
      obtain ⟨ad, rfl, hcol⟩ := at_Col hC i hlt
      obtain ⟨hk, hfi, hki⟩ := hO.at i hlt
      have hmem : K.getD i zKy ∈ K := by rw [List.getD_eq_getElem?_getD, List.getElem?_eq_getElem hlt, Option.getD_some]; exact List.getElem_mem hlt
      have hfit := hK _ hmem
      have hks1 := hks _ hmem
      have hdrop : K.drop i = K.getD i zKy :: K.drop (i + 1) := by rw [List.getD_eq_getElem?_getD, List.getElem?_eq_getElem hlt, Option.getD_some]; exact List.drop_eq_getElem_cons hlt
      have hcw := hcol.keep HB.out
      have HTa := Aside0.mk (fun (W : World) (hb : Below wr.heap.size wr W) => text_calls a ha t h1 h2 (K.getD i zKy) hfit (cols.getD i zCol) hk hfi (ad.add (i * 9)) W (hcw.keep hb))
      have HTb := Aside0.mk (fun (W : World) (hb' : Below wr.heap.size wr W) => text_calls b hb t h1 h2 (K.getD i zKy) hfit (cols.getD i zCol) hk hfi (ad.add (i * 9)) W (hcw.keep hb'))
      have HCL := Aside0.mk (fun (W : World) (hb' : Below wr.heap.size wr W) => closure_calls C (cols.getD i zCol).kind (by rw [hki]; exact hks1) (cols.getD i zCol).kb (partK a t (K.getD i zKy)) (partK b t (K.getD i zKy)) (Nat.le_trans (part_len _ _ _) ha) (Nat.le_trans (part_len _ _ _) hb) W (C.stay hb' (C.stay HB.out hG)) (hcw.keep hb').kind)
      have hrg := C.rng (kindI (K.getD i zKy)) (partK a t (K.getD i zKy)) (partK b t (K.getD i zKy))
      have hq := HQ.out
      rw [hdrop, keysL_cons] at hq
      rw [hki] at HCL
      have hcmp := hcw.cmp
      have hmods := hcw.key.c4
      rw [hk] at hmods
      clear HQ hcw hcol hk hfi hki hmem hfit hks1 hdrop
      generalize (cols.getD i zCol).kb = kb at *
      generalize C.cmp (kindI (K.getD i zKy)) (partK a t (K.getD i zKy)) (partK b t (K.getD i zKy)) = rn at *
      generalize partK a t (K.getD i zKy) = pa at *
      generalize partK b t (K.getD i zKy) = pb at *
      generalize (K.getD i zKy).f4 = km at *
      have x0 := cell_stays HB.out X0.out
      have x1 := cell_stays HB.out X1.out
      have HQ := Aside0.mk hq
      have HTu := Aside0.mk (fun W => collate_turn.calls rn (bits .and .u16 km 512 != 0) (if (bits .and .u16 km 512 != 0) = true then -rn else rn) W (by
        unfold collate_turn.f
        cases (bits .and .u16 km 512 != 0)
        · rfl
        · have : wrap64 (-rn) = -rn := by unfold wrap64; omega
          simp only [if_true]; rw [this]))
      clear hq hrg
      go_wp2
      have HBd : Aside0 (Below wr.heap.size wr wr.drew) := ⟨(Below.refl _ _).drew⟩
      have KP := Aside0.mk (fun (w' : World) (hb : Aside0 (Below wr.heap.size wr w')) => (⟨cell_stays hb.out x1, cell_stays hb.out hcmp, hb⟩ : w'.cell? ⟨g, 1, none⟩ = some (.int .i64 t) ∧ w'.cell? ⟨(ad.add (i * 9)).block, (ad.add (i * 9)).off + 7, none⟩ = some (.func (.func 53) #[] #[.pointer (some ⟨kb, 0, none⟩)]) ∧ Aside0 (Below wr.heap.size wr w')))
      go_region_held3 (fun w' => w'.cell? ⟨g, 1, none⟩ = some (.int .i64 t) ∧ w'.cell? ⟨(ad.add (i * 9)).block, (ad.add (i * 9)).off + 7, none⟩ = some (.func (.func 53) #[] #[.pointer (some ⟨kb, 0, none⟩)]) ∧ Aside0 (Below wr.heap.size wr w'))
        ((refine KP.out _ ?_; first | assumption | exact aside_drew (by assumption)))
        (first
          | (go_at_call 36; refine Calls.mono (HTa.out _ HBd.out) ?_; rintro e w3 ⟨rfl, hb3⟩; have HB3 : Aside0 (Below wr.heap.size wr w3) := ⟨bstep HBd.out hb3⟩; clear hb3 HTa)
          | (go_at_call 36; refine Calls.mono (HTb.out _ HB3.out) ?_; rintro e w4 ⟨rfl, hb4⟩; have HB4 : Aside0 (Below wr.heap.size wr w4) := ⟨bstep HB3.out hb4⟩; clear hb4 HTb)
          | (go_at_call 53; refine Calls.mono (HCL.out _ HB4.out) ?_; rintro e w5 ⟨rfl, hb5⟩; have HB5 : Aside0 (Below wr.heap.size wr w5) := ⟨bstep HB4.out hb5⟩; clear hb5 HCL))
      have hm5 := cell_stays HB5.out hmods
      clear x0 x1 hcmp hmods
      by_cases hrn : rn = 0
      · have hr1 : (rn == 0) = true := beq_iff_eq.mpr hrn
        have hr2 : (rn != 0) = false := bne_eq_false_iff_eq.mpr hrn
        have HQ2 := Aside0.mk (HQ.out.trans (if_pos hrn))
        clear hrn HQ
        go_wp2
        exact ⟨⟨i + 1, by go_num, HLT.out, HQ2, ⟨bstep HB.out HB5.out⟩⟩, by simp [intOf]; omega⟩
      · have hr1 : (rn == 0) = false := beq_eq_false_iff_ne.mpr hrn
        have hr2 : (rn != 0) = true := bne_iff_ne.mpr hrn
        have hq2 := HQ.out.trans (if_neg hrn)
        clear hrn HQ
        cases hR : (bits .and .u16 km 512 != 0)
        all_goals
          rw [hR] at hq2 HTu
          simp only [Bool.false_eq_true, if_false, if_true] at hq2 HTu
          have HQ2 := Aside0.mk hq2
          clear hq2
          go_wp2_with (first
            | (go_at_call 37; refine Calls.mono (HTu.out _) ?_; rintro e w6 ⟨rfl, ⟨nq, rfl⟩⟩))
          go_ret
          exact ⟨by rw [HQ2.out]; rfl, pw_below_drewN (bstep HB.out HB5.out) _⟩
    · have hge : i = K.length := by omega
      subst hge
      clear hlt hi
      have hq := HQ.out
      rw [List.drop_length] at hq
      go_wp2
      go_ret
      exact ⟨by rw [hq]; rfl, HB.out⟩
end Go.Proofs.YtnnoegjgaelafaaDoor.Pr
