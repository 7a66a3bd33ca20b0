/- The program's Keys of an order, over whatever is said of numeral's Compare. The law's upper: small letters large. For CollateBlind: comparison of plain texts; dropped; what filters do twice. The program's Compare of an order, over whatever is said of numeral's Compare. Out of the row's condition on the package's tables: what stands in memory there. The law's 'may': an order of options that may be. Small tools of the laws' walks. -/
import Derived.Test.YtnnoegjgaelafaaDoorQWholeBc
import Derived.Test.YtnnoegjgaelafaaDoorQWholeAz
import Derived.Lib.ConvBytes
import Derived.Lib.SlBytesRow
import Derived.Test.YtnnoegjgaelafaaDoorQWholeAi
import Derived.MakeChecks
import Derived.ProofKit
import Derived.Test.YtnnoegjgaelafaaDoorQWholeAu
import Derived.Test.YtnnoegjgaelafaaDoorRows
import Derived.Test.YtnnoegjgaelafaaDoorQWholeBb
namespace Go.Proofs.YtnnoegjgaelafaaDoor.Pr
open Go.RowKit Go.Proofs.YtnnoegjgaelafaaDoorW.PrintWords Go.Proofs.YtnnoegjgaelafaaDoorW.PrintLast
set_option linter.unusedVariables false
set_option linter.unusedSimpArgs false

/-- What of a line is compared as a key. -/
def partK (s : ByteArray) (t : Int) (k : Ky) : ByteArray := if (bits .and .u16 (kindI k) 240 == 0) then filtK k.f4 (textI s t k) else textI s t k
theorem filtK_len (m : Int) (s : ByteArray) : (filtK m s).size ≤ s.size := by unfold filtK; exact filtL_len _ _ _ _
theorem part_len (s : ByteArray) (t : Int) (k : Ky) : (partK s t k).size ≤ s.size := by
  unfold partK; split
  · exact Nat.le_trans (filtK_len _ _) (text_len s t k)
  · exact text_len s t k
set_option maxHeartbeats 4000000 in
set_option maxRecDepth 100000 in
theorem text_calls (s : ByteArray) (hs : s.size ≤ 1048576) (t : Int) (h1 : -1 ≤ t) (h2 : t ≤ 255) (k : Ky) (hk : Fit k) (c : Col) (hkey : c.key = k) (hfilt : c.filt = (bits .and .u16 (kindI k) 240 == 0)) (p : Addr) (w : World) (h : ColAt w p c) :
    Calls Tryd.prog 36 #[.pointer (some p), .string s, .int .i64 t] w fun e w' => e = .returned (.string (partK s t k)) ∧ Below w.heap.size w w' := by
  have hu := Tryd.underlying71
  have hu3 := Tryd.underlying37
  subst hkey
  have HS := Aside0.mk (span_calls s hs t h1 h2 c.key hk p w h.key)
  have htl := text_len s t c.key
  have HF := Aside0.mk (fun (W : World) (hb : Below w.heap.size w W) => filter_calls (textI s t c.key) (by omega) c.key p W (h.key.keep hb))
  have HQ := Aside0.mk h.filt
  have hsb := span_bounds s t h1 h2 c.key hk
  unfold partK
  unfold textI at HF ⊢
  rw [hfilt] at HQ
  clear h hfilt htl
  generalize spanI s t c.key = r at *
  obtain ⟨r1, r2⟩ := r
  simp only at hsb HF HS ⊢
  obtain ⟨b0, b1, b2⟩ := hsb
  cases hf : (bits .and .u16 (kindI c.key) 240 == 0)
  · rw [hf] at HQ
    simp only [Bool.false_eq_true, if_false]
    clear HF hf
    go_enter Tryd.func36, Tryd.ntmps36
    go_upto_region 2 with (first
      | (go_at_call 33; refine Calls.mono HS.out ?_; rintro e w1 ⟨rfl, hb1⟩; have HB := Aside0.mk hb1; clear hb1 HS))
    obtain ⟨W0, hW0⟩ : ∃ W0 : World, W0 = w1.alloc (.cells #[.int .i64 r1, .int .i64 r2] 37) := ⟨_, rfl⟩
    have hb0 : Below w1.heap.size w1 W0 := by rw [hW0]; exact (Below.refl _ _).alloc (Nat.le_refl _) _
    have z := (show W0.heap[w1.heap.size]? = some (.cells #[.int .i64 r1, .int .i64 r2] 37 (0, 0)) by rw [hW0]; exact heap_alloc_new _ _)
    replace HB := Aside0.mk (bstep HB.out hb0)
    rw [← hW0]
    clear hW0 hb0
    have z0 := blk_cell z 0
    have z1 := blk_cell z 1
    simp at z0 z1
    have xf := cell_stays HB.out HQ.out
    clear z
    go_wp2
    go_ret
    exact ⟨rfl, HB.out⟩
  · rw [hf] at HQ
    simp only [if_true]
    generalize filtK c.key.f4 (s.extract r1.toNat r2.toNat) = res at *
    go_enter Tryd.func36, Tryd.ntmps36
    go_upto_region 2 with (first
      | (go_at_call 33; refine Calls.mono HS.out ?_; rintro e w1 ⟨rfl, hb1⟩; have HB := Aside0.mk hb1; clear hb1 HS))
    obtain ⟨W0, hW0⟩ : ∃ W0 : World, W0 = w1.alloc (.cells #[.int .i64 r1, .int .i64 r2] 37) := ⟨_, rfl⟩
    have hb0 : Below w1.heap.size w1 W0 := by rw [hW0]; exact (Below.refl _ _).alloc (Nat.le_refl _) _
    have z := (show W0.heap[w1.heap.size]? = some (.cells #[.int .i64 r1, .int .i64 r2] 37 (0, 0)) by rw [hW0]; exact heap_alloc_new _ _)
    replace HB := Aside0.mk (bstep HB.out hb0)
    rw [← hW0]
    clear hW0 hb0
    have z0 := blk_cell z 0
    have z1 := blk_cell z 1
    simp at z0 z1
    have xf := cell_stays HB.out HQ.out
    clear z
    go_wp2_with (first
      | (go_at_call 39; refine Calls.mono (HF.out _ HB.out) ?_; rintro e w2 ⟨rfl, hb2⟩; replace HB := Aside0.mk (bstep HB.out hb2); clear hb2))
    go_ret
    exact ⟨rfl, HB.out⟩
/-- What is said of numeral's Compare: of which kinds, in which worlds, what it answers. -/
structure Cmp where
  G : World → Prop
  stay : ∀ {W W1 : World}, Below W.heap.size W W1 → G W → G W1
  ks : Int → Prop
  cmp : Int → ByteArray → ByteArray → Int
  rng : ∀ k a b, -1 ≤ cmp k a b ∧ cmp k a b ≤ 1
  calls : ∀ (k : Int) (a b : ByteArray) (W : World), ks k → a.size ≤ 1048576 → b.size ≤ 1048576 → G W → Calls Tryd.prog 54 #[.int .u16 k, .string a, .string b] W fun e w' => e = .returned (.int .i64 (cmp k a b)) ∧ Below W.heap.size W w'
theorem closure_calls (C : Cmp) (k : Int) (hk : C.ks k) (kb : Nat) (a b : ByteArray) (ha : a.size ≤ 1048576) (hb : b.size ≤ 1048576) (w : World) (hG : C.G w) (x : w.cell? ⟨kb, 0, none⟩ = some (.int .u16 k)) :
    Calls Tryd.prog 53 #[.string a, .string b, .pointer (some ⟨kb, 0, none⟩)] w fun e w' => e = .returned (.int .i64 (C.cmp k a b)) ∧ Below w.heap.size w w' := by
  have HC := Aside0.mk (C.calls k a b w hk ha hb hG)
  go_enter Tryd.func53, Tryd.ntmps53
  go_wp2_with (first
    | (go_at_call 54; refine Calls.mono HC.out ?_; rintro e w1 ⟨rfl, hb1⟩; have HB := Aside0.mk hb1; clear hb1))
  go_ret
  exact ⟨rfl, HB.out⟩
def modR (m : Int) : Bool := bits .and .u16 m 512 != 0
/-- What the keys say. -/
def keysL (C : Cmp) (a b : ByteArray) (t : Int) : List Ky → Int
  | [] => 0
  | k :: r => if C.cmp (kindI k) (partK a t k) (partK b t k) = 0 then keysL C a b t r else if modR k.f4 then -(C.cmp (kindI k) (partK a t k) (partK b t k)) else C.cmp (kindI k) (partK a t k) (partK b t k)
theorem keysL_cons (C : Cmp) (a b : ByteArray) (t : Int) (k : Ky) (r : List Ky) : keysL C a b t (k :: r) = if C.cmp (kindI k) (partK a t k) (partK b t k) = 0 then keysL C a b t r else if (bits .and .u16 k.f4 512 != 0) = true then -(C.cmp (kindI k) (partK a t k) (partK b t k)) else C.cmp (kindI k) (partK a t k) (partK b t k) := rfl
set_option maxHeartbeats 8000000 in
set_option maxRecDepth 100000 in
theorem keys_calls (C : Cmp) (a b : ByteArray) (ha : a.size ≤ 1048576) (hb : b.size ≤ 1048576) (K : List Ky) (hK : ∀ k ∈ K, Fit k) (hks : ∀ k ∈ K, C.ks (kindI k)) (t : Int) (h1 : -1 ≤ t) (h2 : t ≤ 255) (g : Nat) (last turned : Bool) (w : World) (ho : OrdW w g K t last turned) (hkl : K.length ≤ 16) (hG : C.G w) :
    Calls Tryd.prog 20 #[.pointer (some ⟨g, 0, none⟩), .string a, .string b] w fun e w' => e = .returned (.int .i64 (keysL C a b t K)) ∧ Below w.heap.size w w' := by
  have hu := Tryd.underlying69
  have hu2 := Tryd.underlying71
  have hu4 := Tryd.underlying67
  have hu5 := Tryd.underlying33
  have hinf := infoCol
  obtain ⟨A, c, cols, x0, x1, x2, x3, hlc, hC, hO⟩ := ord_cells ho
  clear ho x2 x3
  have X0 := Aside0.mk x0
  have X1 := Aside0.mk x1
  have HB0 : Aside0 (Below w.heap.size w w) := ⟨Below.refl _ _⟩
  go_enter Tryd.func20, Tryd.ntmps20
  go_wp2
  clear x0 x1
  go_loopw [17] (fun v wr => ∃ i : Nat, v = .int .i64 i ∧ i ≤ K.length ∧ Aside0 (keysL C a b t K = keysL C a b t (K.drop i)) ∧ Aside0 (Below w.heap.size w wr)) (fun v _ => K.length - (intOf v).toNat)
  case atStart => exact ⟨0, rfl, Nat.zero_le _, ⟨rfl⟩, HB0⟩
  case round =>
    clear HB0
    obtain ⟨i, rfl, hi, HQ, HB⟩ := hrel
    by_cases hlt : i < K.length
    · have HLT := Aside0.mk hlt
      obtain ⟨ad, rfl, hcol⟩ := at_Col hC i hlt
      obtain ⟨hk, hfi, hki⟩ := hO.at i hlt
      have hmem : K.getD i zKy ∈ K := by rw [List.getD_eq_getElem?_getD, List.getElem?_eq_getElem hlt, Option.getD_some]; exact List.getElem_mem hlt
      have hfit := hK _ hmem
      have hks1 := hks _ hmem
      have hdrop : K.drop i = K.getD i zKy :: K.drop (i + 1) := by rw [List.getD_eq_getElem?_getD, List.getElem?_eq_getElem hlt, Option.getD_some]; exact List.drop_eq_getElem_cons hlt
      have hcw := hcol.keep HB.out
      have HTa := Aside0.mk (fun (W : World) (hb : Below wr.heap.size wr W) => text_calls a ha t h1 h2 (K.getD i zKy) hfit (cols.getD i zCol) hk hfi (ad.add (i * 9)) W (hcw.keep hb))
      have HTb := Aside0.mk (fun (W : World) (hb' : Below wr.heap.size wr W) => text_calls b hb t h1 h2 (K.getD i zKy) hfit (cols.getD i zCol) hk hfi (ad.add (i * 9)) W (hcw.keep hb'))
      have HCL := Aside0.mk (fun (W : World) (hb' : Below wr.heap.size wr W) => closure_calls C (cols.getD i zCol).kind (by rw [hki]; exact hks1) (cols.getD i zCol).kb (partK a t (K.getD i zKy)) (partK b t (K.getD i zKy)) (Nat.le_trans (part_len _ _ _) ha) (Nat.le_trans (part_len _ _ _) hb) W (C.stay hb' (C.stay HB.out hG)) (hcw.keep hb').kind)
      have hrg := C.rng (kindI (K.getD i zKy)) (partK a t (K.getD i zKy)) (partK b t (K.getD i zKy))
      have hq := HQ.out
      rw [hdrop, keysL_cons] at hq
      rw [hki] at HCL
      have hcmp := hcw.cmp
      have hmods := hcw.key.c4
      rw [hk] at hmods
      clear HQ hcw hcol hk hfi hki hmem hfit hks1 hdrop
      generalize (cols.getD i zCol).kb = kb at *
      generalize C.cmp (kindI (K.getD i zKy)) (partK a t (K.getD i zKy)) (partK b t (K.getD i zKy)) = rn at *
      generalize partK a t (K.getD i zKy) = pa at *
      generalize partK b t (K.getD i zKy) = pb at *
      generalize (K.getD i zKy).f4 = km at *
      have x0 := cell_stays HB.out X0.out
      have x1 := cell_stays HB.out X1.out
      have HQ := Aside0.mk hq
      have HTu := Aside0.mk (fun W => collate_turn.calls rn (bits .and .u16 km 512 != 0) (if (bits .and .u16 km 512 != 0) = true then -rn else rn) W (by
        unfold collate_turn.f
        cases (bits .and .u16 km 512 != 0)
        · rfl
        · have : wrap64 (-rn) = -rn := by unfold wrap64; omega
          simp only [if_true]; rw [this]))
      clear hq hrg
      go_wp2
      have HBd : Aside0 (Below wr.heap.size wr wr.drew) := ⟨(Below.refl _ _).drew⟩
      have KP := Aside0.mk (fun (w' : World) (hb : Aside0 (Below wr.heap.size wr w')) => (⟨cell_stays hb.out x1, cell_stays hb.out hcmp, hb⟩ : w'.cell? ⟨g, 1, none⟩ = some (.int .i64 t) ∧ w'.cell? ⟨(ad.add (i * 9)).block, (ad.add (i * 9)).off + 7, none⟩ = some (.func (.func 53) #[] #[.pointer (some ⟨kb, 0, none⟩)]) ∧ Aside0 (Below wr.heap.size wr w')))
      go_region_held3 (fun w' => w'.cell? ⟨g, 1, none⟩ = some (.int .i64 t) ∧ w'.cell? ⟨(ad.add (i * 9)).block, (ad.add (i * 9)).off + 7, none⟩ = some (.func (.func 53) #[] #[.pointer (some ⟨kb, 0, none⟩)]) ∧ Aside0 (Below wr.heap.size wr w'))
        ((refine KP.out _ ?_; first | assumption | exact aside_drew (by assumption)))
        (first
          | (go_at_call 36; refine Calls.mono (HTa.out _ HBd.out) ?_; rintro e w3 ⟨rfl, hb3⟩; have HB3 : Aside0 (Below wr.heap.size wr w3) := ⟨bstep HBd.out hb3⟩; clear hb3 HTa)
          | (go_at_call 36; refine Calls.mono (HTb.out _ HB3.out) ?_; rintro e w4 ⟨rfl, hb4⟩; have HB4 : Aside0 (Below wr.heap.size wr w4) := ⟨bstep HB3.out hb4⟩; clear hb4 HTb)
          | (go_at_call 53; refine Calls.mono (HCL.out _ HB4.out) ?_; rintro e w5 ⟨rfl, hb5⟩; have HB5 : Aside0 (Below wr.heap.size wr w5) := ⟨bstep HB4.out hb5⟩; clear hb5 HCL))
      have hm5 := cell_stays HB5.out hmods
      clear x0 x1 hcmp hmods
      by_cases hrn : rn = 0
      · have hr1 : (rn == 0) = true := beq_iff_eq.mpr hrn
        have hr2 : (rn != 0) = false := bne_eq_false_iff_eq.mpr hrn
        have HQ2 := Aside0.mk (HQ.out.trans (if_pos hrn))
        clear hrn HQ
        go_wp2
        exact ⟨⟨i + 1, by go_num, HLT.out, HQ2, ⟨bstep HB.out HB5.out⟩⟩, by simp [intOf]; omega⟩
      · have hr1 : (rn == 0) = false := beq_eq_false_iff_ne.mpr hrn
        have hr2 : (rn != 0) = true := bne_iff_ne.mpr hrn
        have hq2 := HQ.out.trans (if_neg hrn)
        clear hrn HQ
        cases hR : (bits .and .u16 km 512 != 0)
        all_goals
          rw [hR] at hq2 HTu
          simp only [Bool.false_eq_true, if_false, if_true] at hq2 HTu
          have HQ2 := Aside0.mk hq2
          clear hq2
          go_wp2_with (first
            | (go_at_call 37; refine Calls.mono (HTu.out _) ?_; rintro e w6 ⟨rfl, ⟨nq, rfl⟩⟩))
          go_ret
          exact ⟨by rw [HQ2.out]; rfl, pw_below_drewN (bstep HB.out HB5.out) _⟩
    · have hge : i = K.length := by omega
      subst hge
      clear hlt hi
      have hq := HQ.out
      rw [List.drop_length] at hq
      go_wp2
      go_ret
      exact ⟨by rw [hq]; rfl, HB.out⟩
end Go.Proofs.YtnnoegjgaelafaaDoor.Pr
namespace Go.Proofs.YtnnoegjgaelafaaDoor.Pr
open Go.RowKit Go.Proofs.YtnnoegjgaelafaaDoorW.PrintWords Go.Proofs.YtnnoegjgaelafaaDoorW.PrintLast
set_option linter.unusedVariables false
set_option linter.unusedSimpArgs false

/-- The row that a conversion makes of a string, at w's end; N: its cells; xs: what the first ones hold. -/
structure UpAt (w wr : World) (N n : Nat) (xs : List Int) : Prop where
  below : Below w.heap.size w wr
  len : xs.length = n
  le : n ≤ N
  blk : ∃ cs : Array Value, cs.size = N ∧ wr.heap[w.heap.size]? = some (.cells cs 5 (N, N + 1)) ∧ ∀ j, j < n → cs[j]? = some (.int .u8 (xs.getD j 0))
theorem UpAt.cell {w wr : World} {N n : Nat} {xs : List Int} (h : UpAt w wr N n xs) (j : Nat) (hj : j < n) : wr.cell? ⟨w.heap.size, j, none⟩ = some (.int .u8 (xs.getD j 0)) := by
  obtain ⟨cs, _, hb, hc⟩ := h.blk
  rw [cell_of_row wr _ j cs _ _ hb]; exact hc j hj
theorem UpAt.put {w wr : World} {N n : Nat} {xs : List Int} (h : UpAt w wr N n xs) (i : Nat) (hi : i < n) (x : Int) : UpAt w (wr.setCell ⟨w.heap.size, i, none⟩ (.int .u8 x)) N n (xs.set i x) := by
  obtain ⟨cs, hs, hb, hc⟩ := h.blk
  have hle := h.le
  refine ⟨below_set h.below (Nat.le_refl _), by rw [List.length_set]; exact h.len, h.le, cs.setIfInBounds i (.int .u8 x), by simp [hs], ?_, fun j hj => ?_⟩
  · simp [World.setCell, Array.getElem?_modify, hb]
  · have hl := h.len
    by_cases hij : i = j
    · subst hij
      rw [Array.getElem?_setIfInBounds_self_of_lt (by omega)]
      simp [List.getD_eq_getElem?_getD, hl, hi]
    · rw [Array.getElem?_setIfInBounds_ne hij, hc j hj]
      simp [List.getD_eq_getElem?_getD, List.getElem?_set_ne hij]
theorem UpAt.drew {w wr : World} {N n : Nat} {xs : List Int} (h : UpAt w wr N n xs) : UpAt w wr.drew N n xs := ⟨h.below.drew, h.len, h.le, h.blk⟩
end Go.Proofs.YtnnoegjgaelafaaDoor.Pr
namespace Go.Proofs.YtnnoegjgaelafaaDoor.Pr
open Go.RowKit Go.Proofs.YtnnoegjgaelafaaDoorW.PrintWords Go.Proofs.YtnnoegjgaelafaaDoorW.PrintLast
set_option linter.unusedVariables false
set_option linter.unusedSimpArgs false

theorem cmpB_zero : ∀ a b : List UInt8, Lib.compareBytes a b = 0 ↔ a = b
  | [], [] => by simp [Lib.compareBytes]
  | [], _ :: _ => by simp [Lib.compareBytes]
  | _ :: _, [] => by simp [Lib.compareBytes]
  | a :: xs, b :: ys => by
    unfold Lib.compareBytes
    split
    · rename_i h
      constructor
      · intro h2; simp at h2
      · intro h2; injection h2 with h3; subst h3; exact absurd h (UInt8.lt_irrefl _)
    · rename_i h
      split
      · rename_i h2
        constructor
        · intro h3; simp at h3
        · intro h3; injection h3 with h4; subst h4; exact absurd h2 (UInt8.lt_irrefl _)
      · rename_i h2
        rw [cmpB_zero xs ys]
        have hab : a = b := UInt8.le_antisymm (UInt8.not_lt.1 h2) (UInt8.not_lt.1 h)
        subst hab
        simp
def cmpS (a b : ByteArray) : Int := Lib.compareBytes a.data.toList b.data.toList
theorem filtS_none (s : ByteArray) : filtS false false false s = s := by unfold filtS; rw [filt_none, strOf_nums]
end Go.Proofs.YtnnoegjgaelafaaDoor.Pr
namespace Go.Proofs.YtnnoegjgaelafaaDoor.Pr
open Go.RowKit Go.Proofs.YtnnoegjgaelafaaDoorW.PrintWords Go.Proofs.YtnnoegjgaelafaaDoorW.PrintLast
set_option linter.unusedVariables false
set_option linter.unusedSimpArgs false

/-- What Compare says. -/
def compL (C : Cmp) (a b : ByteArray) (t : Int) (last turned : Bool) (K : List Ky) : Int :=
  if keysL C a b t K = 0 then (if last then (if turned then -(cmpS a b) else cmpS a b) else 0) else keysL C a b t K
set_option maxHeartbeats 4000000 in
set_option maxRecDepth 100000 in
theorem compare_calls (C : Cmp) (a b : ByteArray) (ha : a.size ≤ 1048576) (hb : b.size ≤ 1048576) (K : List Ky) (hK : ∀ k ∈ K, Fit k) (hks : ∀ k ∈ K, C.ks (kindI k)) (t : Int) (h1 : -1 ≤ t) (h2 : t ≤ 255) (g : Nat) (last turned : Bool) (w : World) (ho : OrdW w g K t last turned) (hkl : K.length ≤ 16) (hG : C.G w) :
    Calls Tryd.prog 23 #[.pointer (some ⟨g, 0, none⟩), .string a, .string b] w fun e w' => e = .returned (.int .i64 (compL C a b t last turned K)) ∧ Below w.heap.size w w' := by
  have hu := Tryd.underlying69
  have HK := Aside0.mk (keys_calls C a b ha hb K hK hks t h1 h2 g last turned w ho hkl hG)
  obtain ⟨A, c, cols, x0, x1, x2, x3, hlc, hC, hO⟩ := ord_cells ho
  have X2 := Aside0.mk x2
  have X3 := Aside0.mk x3
  have HS := Aside0.mk (fun W => Tryd.strings_Compare a b W)
  have hr := cmpB_rng a.data.toList b.data.toList
  have HT := Aside0.mk (fun W => collate_turn.calls (Lib.compareBytes a.data.toList b.data.toList) turned (if turned = true then -(Lib.compareBytes a.data.toList b.data.toList) else Lib.compareBytes a.data.toList b.data.toList) W (by
    unfold collate_turn.f
    cases turned
    · rfl
    · have : wrap64 (-(Lib.compareBytes a.data.toList b.data.toList)) = -(Lib.compareBytes a.data.toList b.data.toList) := by unfold wrap64; omega
      simp only [if_true]; rw [this]))
  unfold compL cmpS
  clear ho hC hO x0 x1 x2 x3 hr
  generalize Lib.compareBytes a.data.toList b.data.toList = rb at *
  generalize keysL C a b t K = rn at *
  by_cases hrn : rn = 0
  · have hr1 : (rn == 0) = true := beq_iff_eq.mpr hrn
    have hr2 : (rn != 0) = false := bne_eq_false_iff_eq.mpr hrn
    rw [if_pos hrn]
    clear hrn
    cases last
    · simp only [Bool.false_eq_true, if_false]
      clear HT HS
      go_enter Tryd.func23, Tryd.ntmps23
      go_wp2_with (first
        | (go_at_call 20; refine Calls.mono HK.out ?_; rintro e w2 ⟨rfl, hb2⟩; have HB := Aside0.mk hb2; have y2 := cell_stays hb2 X2.out; clear hb2 HK))
      go_ret
      exact ⟨by rw [beq_iff_eq.mp hr1]; rfl, HB.out⟩
    · simp only [if_true]
      cases turned
      · simp only [Bool.false_eq_true, if_false, if_true] at HT ⊢
        go_enter Tryd.func23, Tryd.ntmps23
        go_wp2_with (first
          | (go_at_call 20; refine Calls.mono HK.out ?_; rintro e w2 ⟨rfl, hb2⟩; have HB := Aside0.mk hb2; have y2 := cell_stays hb2 X2.out; have y3 := cell_stays hb2 X3.out; clear hb2 HK))
        have HBd : Aside0 (Below w2.heap.size w2 w2.drew) := ⟨(Below.refl _ _).drew⟩
        have KP := Aside0.mk (fun (w' : World) (hb : Aside0 (Below w2.heap.size w2 w')) => (⟨cell_stays hb.out y3, hb⟩ : w'.cell? ⟨g, 3, none⟩ = some (.bool false) ∧ Aside0 (Below w2.heap.size w2 w')))
        go_region_held3 (fun w' => w'.cell? ⟨g, 3, none⟩ = some (.bool false) ∧ Aside0 (Below w2.heap.size w2 w'))
          ((refine KP.out _ ?_; first | assumption | exact aside_drew (by assumption) | exact ⟨pw_below_drewN (Below.drew (Below.refl _ _)) _⟩ | exact ⟨pw_below_drewN (Below.refl _ _) _⟩))
          (first
            | (go_at_call 41; refine Calls.mono (HS.out _) ?_; rintro e w3 ⟨rfl, rfl⟩)
            | (go_at_call 37; refine Calls.mono (HT.out _) ?_; rintro e w4 ⟨rfl, ⟨nq, rfl⟩⟩))
        all_goals
          go_wp2
          go_ret
          exact ⟨rfl, bstep HB.out (by first | exact pw_below_drewN (Below.refl _ _) _ | exact pw_below_drewN (Below.drew (Below.refl _ _)) _ | exact Below.drew (Below.refl _ _) | exact Below.refl _ _)⟩
      · simp only [Bool.false_eq_true, if_false, if_true] at HT ⊢
        go_enter Tryd.func23, Tryd.ntmps23
        go_wp2_with (first
          | (go_at_call 20; refine Calls.mono HK.out ?_; rintro e w2 ⟨rfl, hb2⟩; have HB := Aside0.mk hb2; have y2 := cell_stays hb2 X2.out; have y3 := cell_stays hb2 X3.out; clear hb2 HK))
        have HBd : Aside0 (Below w2.heap.size w2 w2.drew) := ⟨(Below.refl _ _).drew⟩
        have KP := Aside0.mk (fun (w' : World) (hb : Aside0 (Below w2.heap.size w2 w')) => (⟨cell_stays hb.out y3, hb⟩ : w'.cell? ⟨g, 3, none⟩ = some (.bool true) ∧ Aside0 (Below w2.heap.size w2 w')))
        go_region_held3 (fun w' => w'.cell? ⟨g, 3, none⟩ = some (.bool true) ∧ Aside0 (Below w2.heap.size w2 w'))
          ((refine KP.out _ ?_; first | assumption | exact aside_drew (by assumption) | exact ⟨pw_below_drewN (Below.drew (Below.refl _ _)) _⟩ | exact ⟨pw_below_drewN (Below.refl _ _) _⟩))
          (first
            | (go_at_call 41; refine Calls.mono (HS.out _) ?_; rintro e w3 ⟨rfl, rfl⟩)
            | (go_at_call 37; refine Calls.mono (HT.out _) ?_; rintro e w4 ⟨rfl, ⟨nq, rfl⟩⟩))
        all_goals
          go_wp2
          go_ret
          exact ⟨rfl, bstep HB.out (by first | exact pw_below_drewN (Below.refl _ _) _ | exact pw_below_drewN (Below.drew (Below.refl _ _)) _ | exact Below.drew (Below.refl _ _) | exact Below.refl _ _)⟩
  · have hr1 : (rn == 0) = false := beq_eq_false_iff_ne.mpr hrn
    have hr2 : (rn != 0) = true := bne_iff_ne.mpr hrn
    rw [if_neg hrn]
    clear hrn HT HS
    go_enter Tryd.func23, Tryd.ntmps23
    go_wp2_with (first
      | (go_at_call 20; refine Calls.mono HK.out ?_; rintro e w2 ⟨rfl, hb2⟩; have HB := Aside0.mk hb2; clear hb2 HK))
    go_ret
    exact ⟨rfl, HB.out⟩
end Go.Proofs.YtnnoegjgaelafaaDoor.Pr
namespace Go.Proofs.YtnnoegjgaelafaaDoor.Pr
open Go.RowKit
set_option linter.unusedVariables false
set_option linter.unusedSimpArgs false

theorem mapM_get {α β : Type} (f : α → Option β) : ∀ (l : List α) (xs : List β), l.mapM f = some xs → ∀ (i : Nat) (a : α), l[i]? = some a → ∃ b, xs[i]? = some b ∧ f a = some b
  | [], xs, h, i, a, hi => by simp at hi
  | x :: l, xs, h, i, a, hi => by
    simp only [List.mapM_cons, Option.bind_eq_bind, Option.bind_eq_some_iff, Option.pure_def, Option.some.injEq] at h
    obtain ⟨b, hb, ys, hys, rfl⟩ := h
    cases i with
    | zero =>
      obtain rfl : x = a := by simpa using hi
      exact ⟨b, rfl, hb⟩
    | succ i => exact mapM_get f l ys hys i a (by simpa using hi)
theorem laid_get {P : Program} {w : World} : ∀ {l : List (String × DataW Unit)} {ps : List MemPlace}, DataW.LaidVars P w l ps → ∀ {n : String} {d : DataW Unit}, (n, d) ∈ l →
    ∃ g t cs fuel p, P.globalNamed n = some g ∧ (P.globals[g]?).map (·.type) = some t ∧ w.var? P n = some cs ∧ DataW.trod (fun _ => ()) P w 0 (fun _ => true) false fuel t cs.toList = some (d, p)
  | [], _, _, _, _, h => by simp at h
  | (n', d') :: r, ps, ⟨g, t, cs, fuel, p, q, h1, h2, h3, h4, hr, _⟩, n, d, h => by
    rcases List.mem_cons.1 h with h | h
    · simp only [Prod.mk.injEq] at h
      obtain ⟨rfl, rfl⟩ := h
      exact ⟨g, t, cs, fuel, p, h1, h2, h3, h4⟩
    · exact laid_get hr h
theorem var_heap {P : Program} {w : World} {n : String} {g : Nat} {cs : Array Value} (hg : P.globalNamed n = some g) (h : w.var? P n = some cs) : ∃ t fz, w.heap[g]? = some (.cells cs t fz) := by
  unfold World.var? at h
  rw [hg] at h
  simp only [Option.bind_some] at h
  split at h
  · rename_i cs' t fz he
    obtain rfl := Option.some.inj h
    exact ⟨t, fz, he⟩
  · exact absurd h (by simp)
theorem trod_string {P : Program} {w : World} {fuel : Nat} {t : TypeId} {c : List Value} {bs : List UInt8} {p : List MemPlace} (ht : P.underlying t = some .string)
    (h : DataW.trod (fun _ => ()) P w 0 (fun _ => true) false fuel t c = some (.lit (.string bs), p)) : c = [.string ⟨bs.toArray⟩] := by
  cases fuel with
  | zero => simp [DataW.trod] at h
  | succ fuel =>
    match c with
    | [.string s] =>
      simp only [DataW.trod, ht] at h
      split at h
      · simp only [Option.some.injEq, Prod.mk.injEq, DataW.lit.injEq, Lit.string.injEq] at h
        obtain ⟨rfl, _⟩ := h
        rfl
      · exact absurd h (by simp)
    | [] => simp [DataW.trod, ht] at h
    | a :: b :: r => cases a <;> simp [DataW.trod, ht] at h
    | [.bool _] | [.int _ _] | [.float _ _] | [.pointer _] | [.slice _ _ _] | [.nilIface] | [.iface _ _] | [.map _] | [.nilFunc] | [.func _ _ _] | [.chan _] | [.agg _] | [.tuple _] | [.complex _ _ _] => simp [DataW.trod, ht] at h
theorem trod_int {P : Program} {w : World} {fuel : Nat} {t : TypeId} {k : IntKind} {c : List Value} {n : Int} {p : List MemPlace} (ht : P.underlying t = some (.int k))
    (h : DataW.trod (fun _ => ()) P w 0 (fun _ => true) false fuel t c = some (.lit (.int k n), p)) : c = [.int k n] := by
  cases fuel with
  | zero => simp [DataW.trod] at h
  | succ fuel =>
    match c with
    | [.int k' n'] =>
      simp only [DataW.trod, ht] at h
      split at h
      · rename_i hk
        simp only [Option.some.injEq, Prod.mk.injEq, DataW.lit.injEq, Lit.int.injEq] at h
        obtain ⟨⟨_, rfl⟩, _⟩ := h
        rw [hk.1]
      · exact absurd h (by simp)
    | [] => simp [DataW.trod, ht] at h
    | a :: b :: r => cases a <;> simp [DataW.trod, ht] at h
    | [.bool _] | [.string _] | [.float _ _] | [.pointer _] | [.slice _ _ _] | [.nilIface] | [.iface _ _] | [.map _] | [.nilFunc] | [.func _ _ _] | [.chan _] | [.agg _] | [.tuple _] | [.complex _ _ _] => simp [DataW.trod, ht] at h
/-- The places of an array, each read by itself. -/
theorem trod_array {P : Program} {w : World} {fuel : Nat} {t e : TypeId} {n m k : Nat} {c : List Value} {xs : List (DataW Unit)} {p : List MemPlace} (ht : P.underlying t = some (.array n e)) (hc : P.cellsOf t = m) (he : P.cellsOf e = k)
    (h : DataW.trod (fun _ => ()) P w 0 (fun _ => true) false (fuel + 1) t c = some (.agg xs, p)) : c.length = m ∧ ∀ i, i < n → ∃ d q, xs[i]? = some d ∧ DataW.trod (fun _ => ()) P w 0 (fun _ => true) false fuel e ((c.drop (i * k)).take k) = some (d, q) := by
  simp only [DataW.trod, ht, hc, he] at h
  split at h
  · rename_i hl
    refine ⟨hl, fun i hi => ?_⟩
    simp only [Option.map_eq_some_iff, Prod.mk.injEq, DataW.agg.injEq] at h
    obtain ⟨ys, hys, rfl, _⟩ := h
    obtain ⟨b, hb, hf⟩ := mapM_get _ _ _ hys i i (by rw [List.getElem?_range hi])
    exact ⟨b.1, b.2, by rw [List.getElem?_map, hb]; rfl, hf⟩
  · exact absurd h (by simp)
theorem trod_struct {P : Program} {w : World} {fuel : Nat} {t : TypeId} {fs : Array Field} {m : Nat} {c : List Value} {xs : List (DataW Unit)} {p : List MemPlace} (ht : P.underlying t = some (.struct fs)) (hc : P.cellsOf t = m)
    (h : DataW.trod (fun _ => ()) P w 0 (fun _ => true) false (fuel + 1) t c = some (.agg xs, p)) : c.length = m ∧ ∀ (i : Nat) (f : Field), fs.toList[i]? = some f → ∃ d q, xs[i]? = some d ∧ DataW.trod (fun _ => ()) P w 0 (fun _ => true) false fuel f.type ((c.drop f.offset).take (P.cellsOf f.type)) = some (d, q) := by
  simp only [DataW.trod, ht, hc] at h
  split at h
  · rename_i hl
    refine ⟨hl, fun i f hi => ?_⟩
    simp only [Option.map_eq_some_iff, Prod.mk.injEq, DataW.agg.injEq] at h
    obtain ⟨ys, hys, rfl, _⟩ := h
    obtain ⟨b, hb, hf⟩ := mapM_get _ _ _ hys i f hi
    exact ⟨b.1, b.2, by rw [List.getElem?_map, hb]; rfl, hf⟩
  · exact absurd h (by simp)
theorem trod_pos {P : Program} {w : World} {fuel : Nat} {t : TypeId} {c : List Value} {x : DataW Unit × List MemPlace} (h : DataW.trod (fun _ => ()) P w 0 (fun _ => true) false fuel t c = some x) : ∃ k, fuel = k + 1 := by
  cases fuel with
  | zero => simp [DataW.trod] at h
  | succ k => exact ⟨k, rfl⟩
theorem take1 {c : List Value} {i : Nat} {v : Value} (h : (c.drop (i * 1)).take 1 = [v]) : c[i]? = some v := by
  rw [Nat.mul_one] at h
  have : (c.drop i)[0]? = some v := by
    cases hd : c.drop i with
    | nil => rw [hd] at h; simp at h
    | cons a r => rw [hd] at h; simp at h; rw [h]; rfl
  rwa [List.getElem?_drop] at this
theorem months_named : Tryd.prog.globalNamed "mill/numeral.months" = some 1 := by kernel_rfl
theorem months_type : (Tryd.prog.globals[1]?).map (·.type) = some 136 := by kernel_rfl
theorem groups_named : Tryd.prog.globalNamed "mill/numeral.groups" = some 2 := by kernel_rfl
theorem groups_type : (Tryd.prog.globals[2]?).map (·.type) = some 150 := by kernel_rfl
theorem cellsM : Tryd.prog.cellsOf 136 = 12 := by kernel_rfl
theorem cellsS : Tryd.prog.cellsOf 9 = 1 := by kernel_rfl
theorem cellsG : Tryd.prog.cellsOf 150 = 8 := by kernel_rfl
theorem cellsE : Tryd.prog.cellsOf 149 = 2 := by kernel_rfl
theorem cells5 : Tryd.prog.cellsOf 5 = 1 := by kernel_rfl
theorem cells3 : Tryd.prog.cellsOf 3 = 1 := by kernel_rfl
theorem mon_cells {w : World} {cs : List Value} {fuel : Nat} {p : List MemPlace} (h : DataW.trod (fun _ => ()) Tryd.prog w 0 (fun _ => true) false fuel 136 cs = some (Rows.laid_mill_numeral_months, p)) : cs = monL.map Value.string := by
  obtain ⟨k, rfl⟩ := trod_pos h
  unfold Rows.laid_mill_numeral_months at h
  obtain ⟨hl, hi⟩ := trod_array Tryd.underlying136 cellsM cellsS h
  apply List.ext_getElem?
  intro i
  by_cases hc : i < 12
  · obtain ⟨d, q, hd, ht⟩ := hi i hc
    rcases (show i = 0 ∨ i = 1 ∨ i = 2 ∨ i = 3 ∨ i = 4 ∨ i = 5 ∨ i = 6 ∨ i = 7 ∨ i = 8 ∨ i = 9 ∨ i = 10 ∨ i = 11 by omega) with rfl | rfl | rfl | rfl | rfl | rfl | rfl | rfl | rfl | rfl | rfl | rfl
    all_goals
      obtain rfl := Option.some.inj hd
      rw [take1 (trod_string Tryd.underlying9 ht)]
      rfl
  · have h1 : cs[i]? = none := List.getElem?_eq_none (by omega)
    have h2 : (monL.map Value.string)[i]? = none := List.getElem?_eq_none (by have : (monL.map Value.string).length = 12 := rfl; omega)
    rw [h1, h2]
theorem pair_at {w : World} {cs : List Value} {fuel : Nat} {i : Nat} {l m : Int} {q : List MemPlace} (ht : DataW.trod (fun _ => ()) Tryd.prog w 0 (fun _ => true) false fuel 149 ((cs.drop (i * 2)).take 2) = some (.agg [.lit (.int .u8 l), .lit (.int .i64 m)], q)) :
    cs[i * 2]? = some (.int .u8 l) ∧ cs[i * 2 + 1]? = some (.int .i64 m) := by
  obtain ⟨k, rfl⟩ := trod_pos ht
  obtain ⟨hl, hf⟩ := trod_struct Tryd.underlying149 cellsE ht
  obtain ⟨d0, q0, e0, t0⟩ := hf 0 _ rfl
  obtain ⟨d1, q1, e1, t1⟩ := hf 1 _ rfl
  obtain rfl := Option.some.inj e0
  obtain rfl := Option.some.inj e1
  have a0 : (((cs.drop (i * 2)).take 2).drop 0).take (Tryd.prog.cellsOf 5) = [.int .u8 l] := trod_int Tryd.underlying5 t0
  have a1 : (((cs.drop (i * 2)).take 2).drop 1).take (Tryd.prog.cellsOf 3) = [.int .i64 m] := trod_int Tryd.underlying3 t1
  rw [cells5] at a0
  rw [cells3] at a1
  have b0 := take1 (i := 0) a0
  have b1 := take1 (i := 1) a1
  rw [List.getElem?_take_of_lt (by decide), List.getElem?_drop] at b0 b1
  exact ⟨b0, b1⟩
theorem grp_cells {w : World} {cs : List Value} {fuel : Nat} {p : List MemPlace} (h : DataW.trod (fun _ => ()) Tryd.prog w 0 (fun _ => true) false fuel 150 cs = some (Rows.laid_mill_numeral_groups, p)) : cs = grpCells.toList := by
  obtain ⟨k, rfl⟩ := trod_pos h
  unfold Rows.laid_mill_numeral_groups at h
  obtain ⟨hl, hi⟩ := trod_array Tryd.underlying150 cellsG cellsE h
  obtain ⟨d0, q0, e0, t0⟩ := hi 0 (by decide)
  obtain ⟨d1, q1, e1, t1⟩ := hi 1 (by decide)
  obtain ⟨d2, q2, e2, t2⟩ := hi 2 (by decide)
  obtain ⟨d3, q3, e3, t3⟩ := hi 3 (by decide)
  obtain rfl := Option.some.inj e0
  obtain rfl := Option.some.inj e1
  obtain rfl := Option.some.inj e2
  obtain rfl := Option.some.inj e3
  obtain ⟨a0, b0⟩ := pair_at t0
  obtain ⟨a1, b1⟩ := pair_at t1
  obtain ⟨a2, b2⟩ := pair_at t2
  obtain ⟨a3, b3⟩ := pair_at t3
  apply List.ext_getElem?
  intro i
  by_cases hc : i < 8
  · rcases (show i = 0 ∨ i = 1 ∨ i = 2 ∨ i = 3 ∨ i = 4 ∨ i = 5 ∨ i = 6 ∨ i = 7 by omega) with rfl | rfl | rfl | rfl | rfl | rfl | rfl | rfl
    · exact a0
    · exact b0
    · exact a1
    · exact b1
    · exact a2
    · exact b2
    · exact a3
    · exact b3
  · have h1 : cs[i]? = none := List.getElem?_eq_none (by omega)
    have h2 : grpCells.toList[i]? = none := List.getElem?_eq_none (by have : grpCells.toList.length = 8 := rfl; omega)
    rw [h1, h2]
theorem gtab_of {laid : List (String × DataW Unit)} {w : World} (hp : (laid.all fun x => x.2.handleName?.isNone) = true) (hm : ("mill/numeral.months", Rows.laid_mill_numeral_months) ∈ laid) (hg : ("mill/numeral.groups", Rows.laid_mill_numeral_groups) ∈ laid) (h : laidMetH Tryd.prog laid w) : GTab w := by
  rw [Go.MakeChecks.laidMetH_plain _ _ _ hp] at h
  obtain ⟨ps, hv, _⟩ := h
  obtain ⟨g, t, cs, fuel, p, h1, h2, h3, h4⟩ := laid_get hv hm
  obtain ⟨g', t', cs', fuel', p', h1', h2', h3', h4'⟩ := laid_get hv hg
  obtain rfl := Option.some.inj (months_named.symm.trans h1)
  obtain rfl := Option.some.inj (months_type.symm.trans h2)
  obtain rfl := Option.some.inj (groups_named.symm.trans h1')
  obtain rfl := Option.some.inj (groups_type.symm.trans h2')
  obtain ⟨ty, fz, hh⟩ := var_heap months_named h3
  obtain ⟨ty', fz', hh'⟩ := var_heap groups_named h3'
  refine ⟨⟨ty, fz, ?_⟩, ⟨ty', fz', ?_⟩⟩
  · rw [hh, show cs = (monL.map Value.string).toArray by rw [← mon_cells h4]]
  · rw [hh', show cs' = grpCells by apply Array.toList_inj.1; exact grp_cells h4']
/-- numeral's Compare, as the orders' walks ask for it. -/
def cmpAll : Cmp where
  G := GTab
  stay := GTab.stay
  ks := fun _ => True
  cmp := Nu.cmpN
  rng := Nu.cmpN_rng
  calls := fun k a b W _ ha hb hG => Nu.compareN_calls k a b ha hb W hG
end Go.Proofs.YtnnoegjgaelafaaDoor.Pr
namespace Go.Proofs.YtnnoegjgaelafaaDoor.Pr
open Go.RowKit Go.Proofs.YtnnoegjgaelafaaDoorW.PrintWords Go.Proofs.YtnnoegjgaelafaaDoorW.PrintLast
set_option linter.unusedVariables false
set_option linter.unusedSimpArgs false

set_option maxHeartbeats 8000000 in
set_option maxRecDepth 100000 in
theorem may_calls (A0 : Option Addr) (c0 : Nat) (l0 : List Ky) (m t : Int) (st un : Bool) (r : Rest) (w : World) (hr0 : Kd.C k33 w A0 l0.length l0) (hc0 : l0.length ≤ c0) (hl : l0.length ≤ 1000000) (mn : Nat) (hm : m = (mn : Int)) (hm2 : mn < 65536) (hk : ∀ k ∈ l0, ∃ n : Nat, k.f4 = (n : Int) ∧ n < 65536) :
    Calls Tryd.prog 19 #[.agg (optVal (.slice A0 l0.length c0) m t st un r)] w (OrddPost w l0 m t st un) := by
  have hu := Tryd.underlying28
  have HU := Aside0.mk hu
  have HC := Aside0.mk (fun (W : World) (hb : Below w.heap.size w W) => check_calls A0 c0 l0 m t st un r W (Kd.C_below hr0 hb) hc0 hl mn hm hm2 hk)
  have HX := Aside0.mk (fun (W : World) => milllaw5_num.calls 0 0 W rfl)
  have HS := Aside0.mk (opt_size A0 l0.length c0 m t st un r)
  cases hq : chkB l0 m t
  · rw [chkN_bad hq] at HC
    have HQ := Aside0.mk hq
    clear hq hr0 hm hk
    generalize optVal (.slice A0 l0.length c0) m t st un r = cs at HC HS ⊢
    go_enter Tryd.func19, Tryd.ntmps19
    go_wp2_with (first
      | (refine box_event rfl (N := 1) rfl (cs := cs) (t := 28) (box_opts _ _ _ rfl cs rfl _) ?_; intro g hg W0 hz0 hb0; have HZ := Aside0.mk hz0; have HB := Aside0.mk hb0; clear hz0 hb0 hg)
      | (refine wpList_load_row rfl 28 _ rfl g rfl 28 cs (0, 0) _ HZ.out HU.out rfl HS.out ?_)
      | (go_at_call 31; refine Calls.mono (HC.out _ HB.out) ?_; rintro e w2 ⟨rfl, hb⟩; replace HB := Aside0.mk (bstep HB.out hb); clear hb HC HZ))
    go_ret2
    exact .inl ⟨HQ.out, rfl, HB.out⟩
  · rw [chkN_good hq] at HC
    have HN := Aside0.mk (fun (W : World) (hb : Below w.heap.size w W) => (new_calls A0 c0 l0 m t st un r W (Kd.C_below hr0 hb) hc0 hl mn hm hm2 hk).mono (R' := fun e w' => ∃ g, e = .returned (.tuple #[.pointer (some ⟨g, 0, none⟩), .int .i64 0]) ∧ Made W l0 m t st un g w') (fun e w' h => h.elim (fun h => by rw [hq] at h; exact absurd h.1 (by simp)) (fun h => h.2)))
    have HQ := Aside0.mk hq
    clear hq hr0 hm hk
    generalize optVal (.slice A0 l0.length c0) m t st un r = cs at HC HN HS ⊢
    go_enter Tryd.func19, Tryd.ntmps19
    go_wp2_with (first
      | (refine box_event rfl (N := 1) rfl (cs := cs) (t := 28) (box_opts _ _ _ rfl cs rfl _) ?_; intro g hg W0 hz0 hb0; have HZ := Aside0.mk hz0; have HB := Aside0.mk hb0; clear hz0 hb0 hg)
      | (refine wpList_load_row rfl 28 _ rfl g rfl 28 cs (0, 0) _ HZ.out HU.out rfl HS.out ?_)
      | (go_at_call 31; refine Calls.mono (HC.out _ HB.out) ?_; rintro e w2 ⟨rfl, hb⟩; replace HZ := Aside0.mk ((hb.block _ (blk_lt HZ.out)).trans HZ.out); replace HB := Aside0.mk (bstep HB.out hb); clear hb HC)
      | (go_at_call 29; refine Calls.mono (HN.out _ HB.out) ?_; rintro e w1 ⟨g', rfl, ho, hg, hb⟩; have HO1 := Aside0.mk ho; have HG1 := Aside0.mk (Nat.lt_of_le_of_lt HB.out.size hg); replace HB := Aside0.mk (bstep HB.out hb); clear hb ho hg HN)
      | (go_at_call 30; refine Calls.mono (HX.out _) ?_; rintro e w3 ⟨rfl, ⟨nq, rfl⟩⟩))
    go_ret2
    refine .inr ⟨HQ.out, _, rfl, ?_, HG1.out, pw_below_drewN HB.out _⟩
    exact HO1.out.below (pw_below_drewN (Below.refl _ _) _)
end Go.Proofs.YtnnoegjgaelafaaDoor.Pr
namespace Go.Proofs.YtnnoegjgaelafaaDoor.Pr
open Go.RowKit Go.Proofs.YtnnoegjgaelafaaDoorW.PrintWords Go.Proofs.YtnnoegjgaelafaaDoorW.PrintLast
set_option linter.unusedVariables false
set_option linter.unusedSimpArgs false

theorem cfacts {l0 : List Ky} {m t : Int} (h : chkB l0 m t = true) : l0.length ≤ 16 ∧ -1 ≤ t ∧ t ≤ 255 ∧ m < 1024 ∧ ∀ k ∈ l0, rightB k = true := by
  unfold chkB at h
  simp only [Bool.and_eq_true, decide_eq_true_eq] at h
  exact ⟨h.1.1.1.1.1, h.1.1.1.1.2, h.1.1.1.2, h.1.1.2, List.all_eq_true.1 h.1.2⟩
theorem efit {l0 : List Ky} {m : Int} {b : Bool} (h : ∀ k ∈ l0, Fit k) : ∀ k ∈ effKeys m b l0, Fit k := by
  intro k hk
  unfold effKeys at hk
  split at hk
  · simp only [List.mem_singleton] at hk
    subst hk
    exact ⟨by simp, by simp, by simp, by simp, by simp, by simp, by simp, by simp⟩
  · obtain ⟨x, hx, rfl⟩ := List.mem_map.1 hk
    have hf := h x hx
    unfold effKey
    split
    · exact ⟨hf.a, hf.b, hf.c, hf.d, hf.e, hf.f, hf.g, hf.h⟩
    · exact hf
theorem elen (m : Int) (b : Bool) (l0 : List Ky) : (effKeys m b l0).length = max 1 l0.length := by
  unfold effKeys; split
  · rename_i h; subst h; rfl
  · rename_i h; have := List.length_pos_iff.2 h; simp; omega
theorem less_iff1 : ∀ a b : List UInt8, Op.bytesLess a b = decide (Lib.compareBytes a b < 0)
  | [], [] => by simp [Op.bytesLess, Lib.compareBytes]
  | _ :: _, [] => by simp [Op.bytesLess, Lib.compareBytes]
  | [], _ :: _ => by simp [Op.bytesLess, Lib.compareBytes]
  | a :: xs, b :: ys => by
    unfold Op.bytesLess Lib.compareBytes
    by_cases h : a < b
    · simp [h]
    · by_cases h2 : b < a
      · have hne : ¬ a = b := fun e => by subst e; exact UInt8.lt_irrefl _ h2
        simp [h, h2, hne]
      · have hab : a = b := UInt8.le_antisymm (UInt8.not_lt.1 h2) (UInt8.not_lt.1 h)
        subst hab
        simp [h, less_iff1 xs ys]
theorem str_less1 (a b : ByteArray) : Op.bytesLess a.toList b.toList = decide (cmpS a b < 0) := by rw [Lib.toList_data, Lib.toList_data, less_iff1]; rfl
theorem str_eq1 (a b : ByteArray) : (a.toList == b.toList) = (cmpS a b == 0) := by
  rw [Lib.toList_data, Lib.toList_data]
  have h := cmpB_zero a.data.toList b.data.toList
  unfold cmpS
  by_cases e : a.data.toList = b.data.toList
  · rw [beq_iff_eq.mpr e, beq_iff_eq.mpr (h.2 e)]
  · rw [beq_eq_false_iff_ne.mpr e, beq_eq_false_iff_ne.mpr (fun x => e (h.1 x))]
theorem text_whole1 (s : ByteArray) (m : Int) (b : Bool) (hm : modB m = false) : textI s (-1) ⟨1, 1, 0, 0, m, b⟩ = s := by
  have hb : begN s (-1) 1 false = 0 := rfl
  have e : spanI s (-1) ⟨1, 1, 0, 0, m, b⟩ = (0, (s.size : Int)) := by
    unfold spanI fromI toI
    simp only [hm, hb]
    simp
    omega
  unfold textI
  rw [e]
  apply ByteArray.ext
  apply Array.toList_inj.1
  rw [ByteArray.data_extract, Array.toList_extract, List.extract_eq_take_drop]
  simp
  exact List.take_of_length_le (by rw [Array.length_toList]; exact Nat.le_refl _)
/-- May of no key and of these modifiers. -/
theorem alloc_opts1 : ∃ zs : Array Value, zs.size = 18 ∧ ∀ (a : Act) (o : Oper) (W : World), o.op = .alloc 28 → (execOp a.eval o).run Tryd.prog W = .ok (.value (.pointer (some ⟨W.heap.size, 0, none⟩))) (W.alloc (.cells zs 28 (0, 0))) := by
  refine ⟨#[.slice none 0 0, .int .u16 0, .int .i64 0, .bool false, .bool false, .bool false, .bool false, .int .u8 0, .string ⟨#[]⟩, .bool false, .int .i64 0, .int .i64 0, .int .i64 0, .int .i64 0, .string ⟨#[]⟩, .bool false, .string ⟨#[]⟩, .slice none 0 0], rfl, fun a o W ho => ?_⟩
  unfold execOp
  simp only [ho]
  go_simp
  try rfl
def zRest1 : Rest := ⟨false, false, 0, ⟨#[]⟩, false, 0, 0, 0, 0, ⟨#[]⟩, false, ⟨#[]⟩, .slice none 0 0⟩
theorem build_opts1 (a : Act) (o : Oper) (W : World) (ho : o.op = .build 28 #[(2, .const (.int .i64 (-1)))]) : (execOp a.eval o).run Tryd.prog W = .ok (.value (.agg (optVal (.slice none 0 0) 0 (-1) false false zRest1))) W := by
  have hu := Tryd.underlying28
  unfold execOp
  simp only [ho]
  go_simp
  try rfl
/-- What a law keeps of the world behind a call: the options' box, the order, the tables. -/
structure Kept (w : World) (O : Array Value) (g0 g : Nat) (K : List Ky) (t : Int) (last turned : Bool) (wc : World) : Prop where
  box : wc.heap[g0]? = some (.cells O 28 (0, 0))
  ord : OrdW wc g K t last turned
  tab : GTab wc
  bel : Below w.heap.size w wc
theorem Kept.step {w : World} {O : Array Value} {g0 g : Nat} {K : List Ky} {t : Int} {last turned : Bool} {wc w' : World} (h : Kept w O g0 g K t last turned wc) (hb : Below wc.heap.size wc w') : Kept w O g0 g K t last turned w' :=
  ⟨(hb.block _ (blk_lt h.box)).trans h.box, h.ord.below hb, h.tab.stay hb, bstep h.bel hb⟩
/-- One key in a block of its own, as a list. -/
theorem key1_C {W : World} {gk : Nat} (k : Ky) (h : W.heap[gk]? = some (.cells #[.int .i64 k.f0, .int .i64 k.f1, .int .i64 k.f2, .int .i64 k.f3, .int .u16 k.f4, .bool k.f5] 33 (0, 0))) : Kd.C k33 W (some ⟨gk, 0, none⟩) 1 [k] := by
  refine ⟨rfl, by decide, fun _ => ⟨⟨gk, 0, none⟩, rfl, fun j p hj => ?_⟩⟩
  cases j with
  | zero =>
    obtain rfl := Option.some.inj hj
    refine ⟨_, rfl, k33_mk W k, fun i u hi => ?_⟩
    have hc := blk_cell h i
    have e : (⟨gk, 0, none⟩ : Addr).add (0 * k33.sz + i) = ⟨gk, i, none⟩ := by simp [Addr.add]; omega
    rw [e, hc, ← hi]
    simp
  | succ j => simp at hj
end Go.Proofs.YtnnoegjgaelafaaDoor.Pr
