/- The program's Count and Span of an order. -/
import Derived.Test.YtnnoegjgaelafaaDoorSpanC
import Derived.Test.YtnnoegjgaelafaaDoorNewc
namespace Go.Proofs.YtnnoegjgaelafaaDoor.Pr
open Go.RowKit Go.Proofs.YtnnoegjgaelafaaDoorW.PrintWords Go.Proofs.YtnnoegjgaelafaaDoorW.PrintLast
set_option linter.unusedVariables false
set_option linter.unusedSimpArgs false

def zKy : Ky := z33
def zCol : Col := ⟨zKy, false, 0, 0⟩
/-- A column's cells stand at p. -/
structure ColAt (w : World) (p : Addr) (c : Col) : Prop where
  key : KeyAt w p c.key
  filt : w.cell? ⟨p.block, p.off + 6, none⟩ = some (.bool c.filt)
  cmp : w.cell? ⟨p.block, p.off + 7, none⟩ = some (.func (.func 53) #[] #[.pointer (some ⟨c.kb, 0, none⟩)])
  emb : w.cell? ⟨p.block, p.off + 8, none⟩ = some (.func (.func 55) #[] #[.pointer (some ⟨c.kb, 0, none⟩)])
  kind : w.cell? ⟨c.kb, 0, none⟩ = some (.int .u16 c.kind)
theorem at_Col {w : World} {A : Option Addr} {n : Nat} {cols : List Col} (h : Kd.C kCol w A n cols) (i : Nat) (h1 : i < n) : ∃ ad, A = some ad ∧ ColAt w (ad.add (i * 9)) (cols.getD i zCol) := by
  obtain ⟨ad, c, e, _, hK, hc0⟩ := Kd.C_get h zCol (i : Int) (by omega) (by omega)
  have hc : ∀ j u, c[j]? = some u → w.cell? (ad.add (i * 9 + j)) = some u := hc0
  obtain ⟨hcs, hh⟩ := hK
  simp only [Int.toNat_natCast] at hcs hh
  generalize cols.getD i zCol = x at hcs hh ⊢
  subst hcs
  refine ⟨ad, e, ⟨hc 0 _ rfl, ?_, ?_, ?_, ?_, ?_⟩, ?_, ?_, ?_, ?_⟩
  · rw [← add_field _ _ 1 (by omega)]; exact hc 1 _ rfl
  · rw [← add_field _ _ 2 (by omega)]; exact hc 2 _ rfl
  · rw [← add_field _ _ 3 (by omega)]; exact hc 3 _ rfl
  · rw [← add_field _ _ 4 (by omega)]; exact hc 4 _ rfl
  · rw [← add_field _ _ 5 (by omega)]; exact hc 5 _ rfl
  · rw [← add_field _ _ 6 (by omega)]; exact hc 6 _ rfl
  · rw [← add_field _ _ 7 (by omega)]; exact hc 7 _ rfl
  · rw [← add_field _ _ 8 (by omega)]; exact hc 8 _ rfl
  · unfold Col.holds at hh
    unfold World.cell?
    rw [hh]; rfl
theorem ColAt.keep {w w1 : World} {p : Addr} {c : Col} (h : ColAt w p c) (hb : Below w.heap.size w w1) : ColAt w1 p c :=
  ⟨h.key.keep hb, cell_stays hb h.filt, cell_stays hb h.cmp, cell_stays hb h.emb, cell_stays hb h.kind⟩
theorem ColsOf.len {cols : List Col} {K : List Ky} (h : ColsOf cols K) : cols.length = K.length := by have := congrArg List.length h; simpa using this
theorem ColsOf.at {cols : List Col} {K : List Ky} (h : ColsOf cols K) (i : Nat) (hi : i < K.length) : (cols.getD i zCol).key = K.getD i zKy ∧ (cols.getD i zCol).filt = (bits .and .u16 (kindI (K.getD i zKy)) 240 == 0) ∧ (cols.getD i zCol).kind = kindI (K.getD i zKy) := by
  have hl := h.len
  have e := congrArg (fun l => l[i]?) h
  simp only [List.getElem?_map, List.getElem?_eq_getElem hi, List.getElem?_eq_getElem (hl ▸ hi : i < cols.length), Option.map_some, Option.some.injEq, Prod.mk.injEq] at e
  simp only [List.getD_eq_getElem?_getD, List.getElem?_eq_getElem hi, List.getElem?_eq_getElem (hl ▸ hi : i < cols.length), Option.getD_some]
  exact e
/-- An order's cells. -/
theorem ord_cells {w : World} {g : Nat} {K : List Ky} {t : Int} {last turned : Bool} (h : OrdW w g K t last turned) : ∃ A c cols, w.cell? ⟨g, 0, none⟩ = some (.slice A K.length c) ∧ w.cell? ⟨g, 1, none⟩ = some (.int .i64 t) ∧ w.cell? ⟨g, 2, none⟩ = some (.bool last) ∧ w.cell? ⟨g, 3, none⟩ = some (.bool turned) ∧ K.length ≤ c ∧ Kd.C kCol w A K.length cols ∧ ColsOf cols K := by
  obtain ⟨v, cols, h1, h3, h4⟩ := h
  obtain ⟨A, c, rfl, h2, h5⟩ := Kd.R_reads h3
  rw [h4.len] at h1 h2 h5
  refine ⟨A, c, cols, ?_⟩
  exact ⟨blk_cell h1 0, blk_cell h1 1, blk_cell h1 2, blk_cell h1 3, h2, h5, h4⟩
theorem count_calls (K : List Ky) (t : Int) (g : Nat) (last turned : Bool) (w : World) (ho : OrdW w g K t last turned) :
    Calls Tryd.prog 14 #[.pointer (some ⟨g, 0, none⟩)] w fun e w' => e = .returned (.int .i64 K.length) ∧ Below w.heap.size w w' := by
  have hu := Tryd.underlying69
  obtain ⟨A, c, cols, x0, x1, x2, x3, hlc, hC, hO⟩ := ord_cells ho
  clear ho hC hO
  go_enter Tryd.func14, Tryd.ntmps14
  go_wp2
  go_ret
  exact ⟨rfl, Below.refl _ _⟩
theorem count_nil (w : World) : Calls Tryd.prog 14 #[.pointer none] w fun e w' => e = .returned (.int .i64 0) ∧ Below w.heap.size w w' := by
  have hu := Tryd.underlying69
  go_enter Tryd.func14, Tryd.ntmps14
  go_wp2
  go_ret
  exact ⟨rfl, Below.refl _ _⟩
/-- The part of a line that is key number i. -/
def spanAt (s : ByteArray) (t : Int) (K : List Ky) (i : Int) : Int × Int := if 0 ≤ i ∧ i < (K.length : Int) then spanI s t (K.getD i.toNat zKy) else (0, 0)
set_option maxHeartbeats 4000000 in
set_option maxRecDepth 100000 in
theorem ospan_in (s : ByteArray) (hs : s.size ≤ 1048576) (K : List Ky) (hK : ∀ k ∈ K, Fit k) (t : Int) (h1 : -1 ≤ t) (h2 : t ≤ 255) (g : Nat) (last turned : Bool) (w : World) (ho : OrdW w g K t last turned) (i : Nat) (hi : i < K.length) (hkl : K.length ≤ 16) :
    Calls Tryd.prog 15 #[.pointer (some ⟨g, 0, none⟩), .string s, .int .i64 i] w fun e w' => e = .returned (.agg #[.int .i64 (spanI s t (K.getD i zKy)).1, .int .i64 (spanI s t (K.getD i zKy)).2]) ∧ Below w.heap.size w w' := by
  have hu := Tryd.underlying69
  have hu2 := Tryd.underlying71
  have hu3 := Tryd.underlying37
  have hu4 := Tryd.underlying67
  have hinf := infoCol
  have HN := Aside0.mk (fun W hb => count_calls K t g last turned W (ho.below hb))
  obtain ⟨A, c, cols, x0, x1, x2, x3, hlc, hC, hO⟩ := ord_cells ho
  obtain ⟨ad, rfl, hcol⟩ := at_Col hC i hi
  have hk := (hO.at i hi).1
  have hfit : Fit (K.getD i zKy) := hK _ (by rw [List.getD_eq_getElem?_getD, List.getElem?_eq_getElem hi, Option.getD_some]; exact List.getElem_mem hi)
  have HS := Aside0.mk (fun (W : World) (hb : Below w.heap.size w W) => span_calls s hs t h1 h2 (K.getD i zKy) hfit (ad.add (i * 9)) W (by rw [← hk]; exact hcol.key.keep hb))
  have hi0 : decide ((i : Int) < 0) = false := decide_eq_false (by omega)
  have hi1 : decide ((K.length : Int) ≤ (i : Int)) = false := decide_eq_false (by omega)
  clear ho hC hO x2 x3 hcol hk hfit
  generalize spanI s t (K.getD i zKy) = r at *
  obtain ⟨r1, r2⟩ := r
  generalize K.length = n at *
  go_enter Tryd.func15, Tryd.ntmps15
  go_upto_region 1 with (fail)
  obtain ⟨W0, hW0⟩ : ∃ W0 : World, W0 = w.alloc (.cells #[.int .i64 0, .int .i64 0] 37) := ⟨_, rfl⟩
  have HB : Aside0 (Below w.heap.size w W0) := ⟨by rw [hW0]; exact (Below.refl _ _).alloc (Nat.le_refl _) _⟩
  have HZ : Aside0 (W0.heap[w.heap.size]? = some (.cells #[.int .i64 0, .int .i64 0] 37 (0, 0))) := ⟨by rw [hW0]; exact heap_alloc_new _ _⟩
  rw [← hW0]
  clear hW0
  go_wp2_with (first
    | (go_at_call 14; refine Calls.mono (HN.out _ HB.out) ?_; rintro e w1 ⟨rfl, hb1⟩; replace HZ := Aside0.mk ((hb1.block _ (blk_lt HZ.out)).trans HZ.out); replace HB := Aside0.mk (bstep HB.out hb1); clear hb1 HN))
  have hgl : g < w.heap.size := World.block_lt_of_cell? w _ x0
  have hne : g ≠ w.heap.size := by omega
  have HBd := aside_drew HB
  have y0 : w1.drew.cell? ⟨g, 0, none⟩ = some (.slice (some ad) n c) := (HB.out.cell (p := ⟨g, 0, none⟩) hgl).trans x0
  have y1 : w1.drew.cell? ⟨g, 1, none⟩ = some (.int .i64 t) := (HB.out.cell (p := ⟨g, 1, none⟩) hgl).trans x1
  clear x0 x1
  go_region_held3 (fun w' => w'.cell? ⟨g, 0, none⟩ = some (.slice (some ad) n c) ∧ w'.cell? ⟨g, 1, none⟩ = some (.int .i64 t) ∧ Aside0 (Below w.heap.size w w'))
    ((refine ⟨?_, ?_, ?_⟩ <;> first | assumption | exact far_keep hne (far_keep hne (by assumption)) | exact ⟨below_set (below_set (Aside0.out (by assumption)) (Nat.le_refl _)) (Nat.le_refl _)⟩))
    (first
      | (go_at_call 33; refine Calls.mono (HS.out _ (Aside0.out (by assumption))) ?_; rintro e w2 ⟨rfl, hb2⟩; have HB2 := Aside0.mk (bstep HBd.out hb2); have u0 := cell_stays hb2 y0; have u1 := cell_stays hb2 y1; have HZ2 : Aside0 (w2.heap[w.heap.size]? = some (.cells #[.int .i64 0, .int .i64 0] 37 (0, 0))) := Aside0.mk ((hb2.block _ (blk_lt (w := w1.drew) HZ.out)).trans HZ.out); have z := HZ2.out; have z0 := blk_cell z 0; have z1 := blk_cell z 1; have f0 := blk_frozen z 0; have f1 := blk_frozen z 1; simp at z0 z1; clear z hb2))
  all_goals
    go_wp2
    refine bodyPost_ret (results_cell_row rfl _ _ w.heap.size 37 #[.int .i64 _, .int .i64 _] (0, 0) _ rfl (blk_put (cs := #[.int .i64 _, .int .i64 0]) (blk_put (cs := #[.int .i64 0, .int .i64 0]) HZ2.out 0 _ rfl) 1 _ rfl) Tryd.underlying37 rfl (by kernel_rfl)) rfl ⟨rfl, below_set (below_set HB2.out (Nat.le_refl _)) (Nat.le_refl _)⟩
set_option maxHeartbeats 4000000 in
set_option maxRecDepth 100000 in
theorem ospan_out (s : ByteArray) (K : List Ky) (t : Int) (g : Nat) (last turned : Bool) (w : World) (ho : OrdW w g K t last turned) (i : Int) (hi : ¬ (0 ≤ i ∧ i < (K.length : Int))) :
    Calls Tryd.prog 15 #[.pointer (some ⟨g, 0, none⟩), .string s, .int .i64 i] w fun e w' => e = .returned (.agg #[.int .i64 0, .int .i64 0]) ∧ Below w.heap.size w w' := by
  have hu3 := Tryd.underlying37
  have HN := Aside0.mk (fun W hb => count_calls K t g last turned W (ho.below hb))
  clear ho
  generalize K.length = n at *
  have HB : Aside0 (Below w.heap.size w (w.alloc (.cells #[.int .i64 0, .int .i64 0] 37))) := ⟨(Below.refl _ _).alloc (Nat.le_refl _) _⟩
  have HZ : Aside0 ((w.alloc (.cells #[.int .i64 0, .int .i64 0] 37)).heap[w.heap.size]? = some (.cells #[.int .i64 0, .int .i64 0] 37 (0, 0))) := ⟨heap_alloc_new _ _⟩
  by_cases h0 : i < 0
  · have hi0 : decide (i < 0) = true := decide_eq_true h0
    clear h0 hi HN
    go_enter Tryd.func15, Tryd.ntmps15
    go_upto_region 1 with (fail)
    obtain ⟨W0, hW0⟩ : ∃ W0 : World, W0 = w.alloc (.cells #[.int .i64 0, .int .i64 0] 37) := ⟨_, rfl⟩
    rw [← hW0] at HB HZ ⊢
    clear hW0
    have z := HZ.out
    have z0 := blk_cell z 0
    have z1 := blk_cell z 1
    have f0 := blk_frozen z 0
    have f1 := blk_frozen z 1
    simp at z0 z1
    clear z
    go_wp2
    refine bodyPost_ret (results_cell_row rfl _ _ w.heap.size 37 #[.int .i64 _, .int .i64 _] (0, 0) _ rfl (blk_put (cs := #[.int .i64 _, .int .i64 0]) (blk_put (cs := #[.int .i64 0, .int .i64 0]) HZ.out 0 _ rfl) 1 _ rfl) Tryd.underlying37 rfl (by kernel_rfl)) rfl ⟨rfl, below_set (below_set HB.out (Nat.le_refl _)) (Nat.le_refl _)⟩
  · have hi0 : decide (i < 0) = false := decide_eq_false h0
    have hi1 : decide ((n : Int) ≤ i) = true := decide_eq_true (by omega)
    clear h0 hi
    go_enter Tryd.func15, Tryd.ntmps15
    go_upto_region 1 with (fail)
    obtain ⟨W0, hW0⟩ : ∃ W0 : World, W0 = w.alloc (.cells #[.int .i64 0, .int .i64 0] 37) := ⟨_, rfl⟩
    rw [← hW0] at HB HZ ⊢
    clear hW0
    go_wp2_with (first
      | (go_at_call 14; refine Calls.mono (HN.out _ HB.out) ?_; rintro e w1 ⟨rfl, hb1⟩; replace HZ := Aside0.mk ((hb1.block _ (blk_lt HZ.out)).trans HZ.out); replace HB := Aside0.mk (bstep HB.out hb1); clear hb1 HN; have z := HZ.out; have z0 := blk_cell z 0; have z1 := blk_cell z 1; have f0 := blk_frozen z 0; have f1 := blk_frozen z 1; simp at z0 z1; clear z))
    refine bodyPost_ret (results_cell_row rfl _ _ w.heap.size 37 #[.int .i64 _, .int .i64 _] (0, 0) _ rfl (blk_put (cs := #[.int .i64 _, .int .i64 0]) (blk_put (cs := #[.int .i64 0, .int .i64 0]) HZ.out 0 _ rfl) 1 _ rfl) Tryd.underlying37 rfl (by kernel_rfl)) rfl ⟨rfl, below_set (below_set HB.out (Nat.le_refl _)) (Nat.le_refl _)⟩
theorem ospan_calls (s : ByteArray) (hs : s.size ≤ 1048576) (K : List Ky) (hK : ∀ k ∈ K, Fit k) (t : Int) (h1 : -1 ≤ t) (h2 : t ≤ 255) (g : Nat) (last turned : Bool) (w : World) (ho : OrdW w g K t last turned) (i : Int) (hkl : K.length ≤ 16) :
    Calls Tryd.prog 15 #[.pointer (some ⟨g, 0, none⟩), .string s, .int .i64 i] w fun e w' => e = .returned (.agg #[.int .i64 (spanAt s t K i).1, .int .i64 (spanAt s t K i).2]) ∧ Below w.heap.size w w' := by
  unfold spanAt
  by_cases hi : 0 ≤ i ∧ i < (K.length : Int)
  · rw [if_pos hi]
    obtain ⟨n, rfl⟩ := Int.eq_ofNat_of_zero_le hi.1
    exact ospan_in s hs K hK t h1 h2 g last turned w ho n (by omega) hkl
  · rw [if_neg hi]
    exact ospan_out s K t g last turned w ho i hi
end Go.Proofs.YtnnoegjgaelafaaDoor.Pr
