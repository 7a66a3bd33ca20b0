/- The law CollateNews: the walk. -/
import Derived.Test.YtnnoegjgaelafaaDoorCols
import Derived.Test.YtnnoegjgaelafaaDoorMade
import Derived.Great.BuildSlice
namespace Go.Proofs.YtnnoegjgaelafaaDoor.Pr
open Go.RowKit Go.Great Go.Proofs.YtnnoegjgaelafaaDoorW.PrintWords Go.Proofs.YtnnoegjgaelafaaDoorW.PrintLast
set_option linter.unusedVariables false
set_option linter.unusedSimpArgs false

/-- Element i is written over. -/
theorem key_put {wr : World} {base g n cap : Nat} {xs : List Ky} (h : Kd.R k33 33 wr base (fun _ => True) (.slice (some ⟨g, 0, none⟩) n cap) xs) (i : Nat) (hi : i < n) (k : Ky) :
    Kd.R k33 33 ((((((wr.setCell ⟨g, i * 6, none⟩ (.int .i64 k.f0)).setCell ⟨g, i * 6 + 1, none⟩ (.int .i64 k.f1)).setCell ⟨g, i * 6 + 2, none⟩ (.int .i64 k.f2)).setCell ⟨g, i * 6 + 3, none⟩ (.int .i64 k.f3)).setCell ⟨g, i * 6 + 4, none⟩ (.int .u16 k.f4)).setCell ⟨g, i * 6 + 5, none⟩ (.bool k.f5)) base (fun _ => True) (.slice (some ⟨g, 0, none⟩) n cap) (xs.set i k) ∧
    wr.grownBy ((((((wr.setCell ⟨g, i * 6, none⟩ (.int .i64 k.f0)).setCell ⟨g, i * 6 + 1, none⟩ (.int .i64 k.f1)).setCell ⟨g, i * 6 + 2, none⟩ (.int .i64 k.f2)).setCell ⟨g, i * 6 + 3, none⟩ (.int .i64 k.f3)).setCell ⟨g, i * 6 + 4, none⟩ (.int .u16 k.f4)).setCell ⟨g, i * 6 + 5, none⟩ (.bool k.f5)) (some g) ∧ base ≤ g := by
  obtain ⟨hn, _, hC⟩ := Kd.R_reads' h
  obtain ⟨ad, e, x0, x1, x2, x3, x4, x5⟩ := at_T33 hC (i : Int) (by omega) (by omega)
  obtain rfl := Option.some.inj e
  simp only [add_plain, Int.toNat_natCast] at x0 x1 x2 x3 x4 x5
  have hs := (Kd.R_seg h (i : Int) (by omega) (by omega) (c := keyCells (rd_T33 xs (i : Int))) (seg := keyCells k) (j := 0) (okp := fun _ => False) (x' := k) rfl
    (fun j u hj => by
      match j, hj with
      | 0, hj => simp [keyCells] at hj; subst hj; exact x0
      | 1, hj => simp [keyCells] at hj; subst hj; exact x1
      | 2, hj => simp [keyCells] at hj; subst hj; exact x2
      | 3, hj => simp [keyCells] at hj; subst hj; exact x3
      | 4, hj => simp [keyCells] at hj; subst hj; exact x4
      | 5, hj => simp [keyCells] at hj; subst hj; exact x5)
    (Nat.le_refl 6) (key_M _ _ _ _) (fun _ h => h.elim))
  rw [Int.toNat_natCast] at hs
  exact ⟨hs.1, hs.2, Kd.R_base h g (by simp [Value.ownBlock])⟩
/-- A struct of options is laid. -/
theorem alloc_opts : ∃ zs : Array Value, zs.size = 18 ∧ ∀ (a : Act) (o : Oper) (W : World), o.op = .alloc 28 → (execOp a.eval o).run Tryd.prog W = .ok (.value (.pointer (some ⟨W.heap.size, 0, none⟩))) (W.alloc (.cells zs 28 (0, 0))) := by
  refine ⟨#[.slice none 0 0, .int .u16 0, .int .i64 0, .bool false, .bool false, .bool false, .bool false, .int .u8 0, .string ⟨#[]⟩, .bool false, .int .i64 0, .int .i64 0, .int .i64 0, .int .i64 0, .string ⟨#[]⟩, .bool false, .string ⟨#[]⟩, .slice none 0 0], rfl, fun a o W ho => ?_⟩
  unfold execOp
  simp only [ho]
  go_simp
  try rfl
structure NewsAt (w wr : World) (O : Value → Array Value) (vo v1 : Value) (g0 g1 : Nat) (l0 xs : List Ky) (i : Nat) : Prop where
  below : Below w.heap.size w wr
  z0 : wr.heap[g0]? = some (.cells (O vo) 28 (0, 0))
  z1 : wr.heap[g1]? = some (.cells (O v1) 28 (0, 0))
  copy : Kd.R k33 33 wr w.heap.size (fun _ => True) v1 xs
  len : xs.length = l0.length
  rest : ∀ j, i ≤ j → j < l0.length → xs[j]? = l0[j]?
theorem NewsAt.step {w W w1 : World} {O : Value → Array Value} {vo v1 : Value} {g0 g1 : Nat} {l0 xs : List Ky} {i : Nat} (h : NewsAt w W O vo v1 g0 g1 l0 xs i) (hb : Below W.heap.size W w1) : NewsAt w w1 O vo v1 g0 g1 l0 xs i :=
  ⟨bstep h.below hb, (hb.block _ (blk_lt h.z0)).trans h.z0, (hb.block _ (blk_lt h.z1)).trans h.z1, Kd.R_below h.copy hb, h.len, h.rest⟩
/-- What ordered handed over. -/
def POrd (q : Bool) (K : List Ky) (t : Int) (last turned : Bool) (cp : Option Addr) (w : World) : Prop := cp = none ∨ ∃ g, cp = some ⟨g, 0, none⟩ ∧ q = true ∧ OrdW w g K t last turned
theorem POrd.below {q : Bool} {K : List Ky} {t : Int} {last turned : Bool} {cp : Option Addr} {w w1 : World} (h : POrd q K t last turned cp w) (hb : Below w.heap.size w w1) : POrd q K t last turned cp w1 := by
  rcases h with rfl | ⟨g, rfl, hq, h⟩
  · exact .inl rfl
  · exact .inr ⟨g, rfl, hq, h.below hb⟩
theorem OrdW.over {w w1 : World} {g : Nat} {K : List Ky} {t : Int} {last turned : Bool} (h : OrdW w g K t last turned) {b : Nat} {ok : Nat → Prop} {v : Value} {xs : List Ky} (hv : Kd.R k33 33 w b ok v xs) (hg : w.grownBy w1 v.ownBlock) : OrdW w1 g K t last turned := by
  obtain ⟨u, cols, h1, h3, h4⟩ := h
  exact ⟨u, cols, blk_grown h1 hg (Kd.R_ne hv h1 (by decide)), Kd.R_over h3 hv (by decide) hg, h4⟩
theorem POrd.over {q : Bool} {K : List Ky} {t : Int} {last turned : Bool} {cp : Option Addr} {w w1 : World} (h : POrd q K t last turned cp w) {b : Nat} {ok : Nat → Prop} {v : Value} {xs : List Ky} (hv : Kd.R k33 33 w b ok v xs) (hg : w.grownBy w1 v.ownBlock) : POrd q K t last turned cp w1 := by
  rcases h with rfl | ⟨g, rfl, hq, h⟩
  · exact .inl rfl
  · exact .inr ⟨g, rfl, hq, h.over hv hg⟩
theorem six_below {w W : World} {gk a : Nat} (h : Below w.heap.size w W) (hb : w.heap.size ≤ gk) (v0 v1 v2 v3 v4 v5 : Value) :
    Below w.heap.size w ((((((W.setCell ⟨gk, a, none⟩ v0).setCell ⟨gk, a + 1, none⟩ v1).setCell ⟨gk, a + 2, none⟩ v2).setCell ⟨gk, a + 3, none⟩ v3).setCell ⟨gk, a + 4, none⟩ v4).setCell ⟨gk, a + 5, none⟩ v5) :=
  below_set (below_set (below_set (below_set (below_set (below_set h hb) hb) hb) hb) hb) hb
theorem NewsAt.next {w W W' : World} {O : Value → Array Value} {vo : Value} {gk n c1 : Nat} {g0 g1 : Nat} {l0 xs : List Ky} {i : Nat} (h : NewsAt w W O vo (.slice (some ⟨gk, 0, none⟩) n c1) g0 g1 l0 xs i) (k : Ky)
    (hR : Kd.R k33 33 W' w.heap.size (fun _ => True) (.slice (some ⟨gk, 0, none⟩) n c1) (xs.set i k)) (hG : W.grownBy W' (some gk)) (hB : Below w.heap.size w W') : NewsAt w W' O vo (.slice (some ⟨gk, 0, none⟩) n c1) g0 g1 l0 (xs.set i k) (i + 1) := by
  have hn0 : some g0 ≠ some gk := by have := Kd.R_ne h.copy h.z0 (by decide); simpa [Value.ownBlock] using this
  have hn1 : some g1 ≠ some gk := by have := Kd.R_ne h.copy h.z1 (by decide); simpa [Value.ownBlock] using this
  refine ⟨hB, blk_grown h.z0 hG hn0, blk_grown h.z1 hG hn1, hR, by rw [List.length_set]; exact h.len, fun j hj hj2 => ?_⟩
  rw [List.getElem?_set_ne (by omega)]; exact h.rest j (by omega) hj2
theorem POrd.next {q : Bool} {W W' : World} {gk n c1 b : Nat} {xs : List Ky} {K : List Ky} {t : Int} {last turned : Bool} {cp : Option Addr} (hp : POrd q K t last turned cp W)
    (hR : Kd.R k33 33 W b (fun _ => True) (.slice (some ⟨gk, 0, none⟩) n c1) xs) (hG : W.grownBy W' (some gk)) : POrd q K t last turned cp W' := hp.over hR (by simpa [Value.ownBlock] using hG)
theorem drew_step (W : World) : Below W.heap.size W W.drew := (Below.refl _ _).drew
theorem chk_facts {l0 : List Ky} {m t : Int} (h : chkB l0 m t = true) : l0.length ≤ 16 ∧ -1 ≤ t ∧ t ≤ 255 ∧ m < 1024 ∧ ∀ k ∈ l0, rightB k = true := by
  unfold chkB at h
  simp only [Bool.and_eq_true, decide_eq_true_eq] at h
  exact ⟨h.1.1.1.1.1, h.1.1.1.1.2, h.1.1.1.2, h.1.1.2, List.all_eq_true.1 h.1.2⟩
theorem eff_fit {l0 : List Ky} {m : Int} {b : Bool} (h : ∀ k ∈ l0, Fit k) : ∀ k ∈ effKeys m b l0, Fit k := by
  intro k hk
  unfold effKeys at hk
  split at hk
  · simp only [List.mem_singleton] at hk
    subst hk
    exact ⟨by simp, by simp, by simp, by simp, by simp, by simp, by simp, by simp⟩
  · obtain ⟨x, hx, rfl⟩ := List.mem_map.1 hk
    have hf := h x hx
    unfold effKey
    split
    · exact ⟨hf.a, hf.b, hf.c, hf.d, hf.e, hf.f, hf.g, hf.h⟩
    · exact hf
theorem eff_len (m : Int) (b : Bool) (l0 : List Ky) : (effKeys m b l0).length = max 1 l0.length := by
  unfold effKeys; split
  · rename_i h; subst h; rfl
  · rename_i h; have := List.length_pos_iff.2 h; simp; omega
set_option maxHeartbeats 8000000 in
set_option maxRecDepth 100000 in
theorem news_walk (A0 : Option Addr) (c0 : Nat) (l0 : List Ky) (m t : Int) (st un : Bool) (r : Rest) (h17 : r.r17.oneCell' = true) (s : ByteArray) (hs : s.size ≤ 1048576) (w : World) (hr0 : Kd.C k33 w A0 l0.length l0) (hc0 : l0.length ≤ c0) (hl : l0.length ≤ 1000000) (mn : Nat) (hm : m = (mn : Int)) (hm2 : mn < 65536) (hk : ∀ k ∈ l0, ∃ n : Nat, k.f4 = (n : Int) ∧ n < 65536) :
    Calls Tryd.prog 3 #[.agg (optVal (.slice A0 l0.length c0) m t st un r), .string s] w fun e w' => e = .returned (.bool true) ∧ Below w.heap.size w w' := by
  have HU := Aside0.mk Tryd.underlying28
  obtain ⟨zs, hzs, haz⟩ := alloc_opts
  have HAZ := Aside0.mk haz
  clear haz
  obtain ⟨O, hO⟩ : ∃ O : Value → Array Value, ∀ v, O v = optVal v m t st un r := ⟨fun v => optVal v m t st un r, fun _ => rfl⟩
  have HORD : Aside0 (∀ (A1 : Option Addr) (c1 : Nat) (W : World), Kd.C k33 W A1 l0.length l0 → l0.length ≤ c1 → Calls Tryd.prog 12 #[.agg (O (.slice A1 l0.length c1))] W (fun e w' => ∃ cp, e = .returned (.tuple #[.pointer cp, .bool true]) ∧ POrd (chkB l0 m t) (effKeys m (modB m) l0) t (!st && !un) (bits .and .u16 m 512 != 0) cp w' ∧ Below W.heap.size W w')) := ⟨fun A1 c1 W hC hc => by
    rw [hO]
    refine (ordd_calls A1 c1 l0 m t st un r W hC hc hl mn hm hm2 hk).mono (fun e w' h => ?_)
    rcases h with ⟨_, rfl, hb⟩ | ⟨hq, g, rfl, ho, _, hb⟩
    · exact ⟨none, rfl, .inl rfl, hb⟩
    · exact ⟨_, rfl, .inr ⟨g, rfl, hq, ho⟩, hb⟩⟩
  have HO0 : Aside0 (∀ v, (O v)[0]? = some v) := ⟨fun v => by rw [hO]; rfl⟩
  have HO2 : Aside0 (∀ v, (O v)[2]? = some (.int .i64 t)) := ⟨fun v => by rw [hO]; rfl⟩
  have HOS : Aside0 (∀ v u, (O v).setIfInBounds 0 u = O u) := ⟨fun v u => by rw [hO, hO]; rfl⟩
  have HOZ : Aside0 (∀ v, (O v).size = 18) := ⟨fun v => by rw [hO]; rfl⟩
  have HSZ : Aside0 (∀ v, (Tryd.prog.info? 28).map (·.size) = some (O v).size) := ⟨fun v => by rw [HOZ.out]; kernel_rfl⟩
  have HO1 : Aside0 (∀ v : Value, v.oneCell' = true → (O v).all (·.oneCell') = true) := ⟨fun v hv => by rw [hO]; simp [optVal, Value.oneCell']; exact ⟨hv, h17⟩⟩
  have HR0 := Aside0.mk hr0
  have HEFF : Aside0 (mn < 1024 → ∀ W, Below w.heap.size w W → Calls Tryd.prog 13 #[.agg (O (.slice A0 l0.length c0))] W fun e w' => ∃ v0 : Value, e = .returned v0 ∧ Kd.R k33 33 w' W.heap.size (fun _ => True) v0 (effKeys m (modB m) l0) ∧ Below W.heap.size W w') := ⟨fun h W hb => by
    rw [hO]; exact reff_calls A0 c0 l0 m t st un r W (Kd.C_below hr0 hb) hc0 hl mn hm h⟩
  rw [← hO]
  clear hr0 hO h17
  go_enter Tryd.func3, Tryd.ntmps3
  go_upto_region 3 with (first
    | (refine box_event rfl (N := 2) rfl (cs := O (.slice A0 l0.length c0)) (t := 28) (box_opts _ _ _ rfl _ rfl _) ?_; intro g0 hg0 W0 hz0 hb0; have HZ0 := Aside0.mk hz0; have HB := Aside0.mk hb0; clear hz0 hb0 hg0)
    | (refine wpList_load_row rfl 28 _ rfl g0 rfl 28 (O (.slice A0 l0.length c0)) (0, 0) _ HZ0.out HU.out rfl (HSZ.out _) ?_)
    | (refine box_event rfl (N := 5) rfl (cs := zs) (t := 28) (HAZ.out _ _ _ rfl) ?_; intro g1 hg1 W1 hz1 hb1; have HZ1 := Aside0.mk hz1; have HN01 : Aside0 (g0 ≠ g1) := ⟨by have := blk_lt HZ0.out; omega⟩; have HG1 : Aside0 (w.heap.size ≤ g1) := ⟨by rw [hg1]; exact HB.out.size⟩; replace HZ0 := Aside0.mk ((hb1.block _ (blk_lt HZ0.out)).trans HZ0.out); replace HB := Aside0.mk (bstep HB.out hb1); clear hz1 hb1 hg1)
    | (refine wpList_store_rowTo rfl 28 _ _ rfl rfl g1 (O (.slice A0 l0.length c0)) rfl rfl 28 zs HZ1.out (HSZ.out _) (hzs.trans (HOZ.out _).symm) (HO1.out _ rfl) ?_; obtain ⟨W2, hW2⟩ : ∃ W2 : World, W2 = W1.setRow g1 (O (.slice A0 l0.length c0)) := ⟨_, rfl⟩; replace HZ0 : Aside0 (W2.heap[g0]? = some (.cells (O (.slice A0 l0.length c0)) 28 (0, 0))) := ⟨by rw [hW2, setRow_other _ _ _ _ HN01.out]; exact HZ0.out⟩; replace HZ1 : Aside0 (W2.heap[g1]? = some (.cells (O (.slice A0 l0.length c0)) 28 (0, 0))) := ⟨by rw [hW2]; exact setRow_heap _ _ _ _ _ _ HZ1.out⟩; replace HB : Aside0 (Below w.heap.size w W2) := ⟨by rw [hW2]; exact below_setRow HB.out g1 HG1.out _⟩; rw [← hW2]; clear hW2; have x0 := (blk_cell HZ0.out 0).trans (HO0.out _))
    | (at_builtin; refine Kd.R_append_rows (Rr := k33.K w) k33 (w0 := w) w.heap.size rfl (.const (.slice none 0 0)) (.tmp 15) 22 33 (.agg #[.int .i64 0, .int .i64 0, .int .i64 0, .int .i64 0, .int .u16 0, .bool false]) 40 rfl Tryd.underlying22 infoKey rfl (by decide) (by omega) (.slice none 0 0) [] l0 _ _ _ (fun _ => True) (fun _ => False) rfl rfl (Kd.R_nil _ _ _ _ _) (ReadsRow.imp_ HR0.out HB.out (fun _ _ hp => hp)) (fun x cs h => key_made h) (fun _ h => h.elim) (fun _ _ => trivial) HB.out HB.out.size (by simp; omega) ?_; intro v1 w1 hR1 hB1 hG1 _; replace hR1 : Kd.R k33 33 w1 w.heap.size (fun _ => True) v1 l0 := hR1; obtain ⟨A1, c1, rfl, hle1, hC1⟩ := Kd.R_reads hR1; have HR1 := Aside0.mk hR1; replace HZ0 := Aside0.mk (blk_grown HZ0.out hG1 (by simp [Value.ownBlock])); replace HZ1 := Aside0.mk (blk_grown HZ1.out hG1 (by simp [Value.ownBlock])); replace HB := Aside0.mk hB1; clear hR1 hB1 hG1 hC1 x0; have y0 := (blk_cell HZ1.out 0).trans (HO0.out _); have fy := blk_frozen HZ1.out 0))
  obtain ⟨W3, hW3⟩ : ∃ W3 : World, W3 = w1.setCell ⟨g1, 0, none⟩ (.slice A1 l0.length c1) := ⟨_, rfl⟩
  have HA : Aside0 (NewsAt w W3 O (.slice A0 l0.length c0) (.slice A1 l0.length c1) g0 g1 l0 l0 0) := ⟨by rw [hW3]; exact HB.out.setCell HG1.out _, by rw [hW3]; exact blk_far HZ0.out HN01.out _, by rw [hW3]; have := blk_set HZ1.out 0 (.slice A1 l0.length c1); rwa [HOS.out] at this, by rw [hW3]; exact Kd.R_set HR1.out HZ1.out (by decide) 0 _, rfl, fun _ _ _ => rfl⟩
  rw [← hW3]
  clear hW3 HB HZ0 HZ1 HR1 y0 fy
  go_wp2_with (first
    | (refine wpList_load_row rfl 28 _ rfl g1 rfl 28 (O (.slice A1 l0.length c1)) (0, 0) _ HA.out.z1 HU.out rfl (HSZ.out _) ?_)
    | (go_at_call 12; refine Calls.mono (HORD.out A1 c1 _ ((Kd.R_reads' HA.out.copy).2.2) hle1) ?_; rintro e w2 ⟨cp, rfl, hpo, hb2⟩; replace HA := Aside0.mk (HA.out.step hb2); have HPO := Aside0.mk hpo; clear hpo hb2; have x0 := (blk_cell HA.out.z0 0).trans (HO0.out _); have y0 := (blk_cell HA.out.z1 0).trans (HO0.out _)))
  clear x0 y0
  go_loopw [8] (fun v wr => ∃ (i : Nat) (xs : List Ky), v = .int .i64 i ∧ i ≤ l0.length ∧ Aside0 (NewsAt w wr O (.slice A0 l0.length c0) (.slice A1 l0.length c1) g0 g1 l0 xs i) ∧ Aside0 (POrd (chkB l0 m t) (effKeys m (modB m) l0) t (!st && !un) (bits .and .u16 m 512 != 0) cp wr)) (fun v _ => l0.length - (intOf v).toNat)
  case atStart => exact ⟨0, l0, rfl, Nat.zero_le _, HA, HPO⟩
  case round =>
    clear HA HPO
    obtain ⟨i, xs, rfl, hi, HA, HPO⟩ := hrel
    by_cases hlt : i < l0.length
    · have HLT := Aside0.mk hlt
      have hlx := HA.out.len
      obtain ⟨gk, cap, hf, hgk, hgk2, cells, hblk⟩ := Kd.R_form HA.out.copy (by omega)
      injection hf with hf1 hf2 hf3
      subst hf1
      obtain ⟨ad1, e1, x0, x1, x2, x3, x4, x5⟩ := at_T33 (Kd.R_reads' HA.out.copy).2.2 (i : Int) (by omega) (by omega)
      obtain rfl := Option.some.inj e1
      obtain ⟨ad, e0, y0, y1, y2, y3, y4, y5⟩ := at_T33 (Kd.C_below HR0.out HA.out.below) (i : Int) (by omega) (by omega)
      subst e0
      have hrd0 : rd_T33 l0 (i : Int) = l0[i] := by simp [rd_T33, hlt]
      have hrd1 : rd_T33 xs (i : Int) = l0[i] := by
        have hr := HA.out.rest i (Nat.le_refl _) hlt
        unfold rd_T33
        rw [Int.toNat_natCast, List.getD_eq_getElem?_getD, hr, List.getElem?_eq_getElem hlt]; rfl
      rw [hrd0] at y0 y1 y2 y3 y4 y5
      rw [hrd1] at x0 x1 x2 x3 x4 x5
      simp only [add_plain, Int.toNat_natCast] at x0 x1 x2 x3 x4 x5 y0 y1 y2 y3 y4 y5
      clear hrd0 hrd1
      generalize l0[i] = kx at x0 x1 x2 x3 x4 x5 y0 y1 y2 y3 y4 y5
      have u0 := (blk_cell HA.out.z0 0).trans (HO0.out _)
      have u1 := (blk_cell HA.out.z1 0).trans (HO0.out _)
      have fz := fun j => blk_frozen hblk j
      have f0 := fz (i * 6)
      have f1 := fz (i * 6 + 1)
      have f2 := fz (i * 6 + 2)
      have f3 := fz (i * 6 + 3)
      have f4 := fz (i * 6 + 4)
      have f5 := fz (i * 6 + 5)
      clear hblk fz hgk hgk2 hf2 hf3 hlx
      go_wp2
      have hu2 := Tryd.underlying33
      go_region_held3 (fun w' => w'.cell? ⟨g0, 0, none⟩ = some (.slice (some ad) l0.length c0) ∧ w'.cell? ⟨g1, 0, none⟩ = some (.slice (some ⟨gk, 0, none⟩) l0.length c1) ∧ (w'.cell? ⟨gk, i * 6, none⟩ = some (.int .i64 kx.f0) ∧ w'.cell? ⟨gk, i * 6 + 1, none⟩ = some (.int .i64 kx.f1) ∧ w'.cell? ⟨gk, i * 6 + 2, none⟩ = some (.int .i64 kx.f2) ∧ w'.cell? ⟨gk, i * 6 + 3, none⟩ = some (.int .i64 kx.f3) ∧ w'.cell? ⟨gk, i * 6 + 4, none⟩ = some (.int .u16 kx.f4) ∧ w'.cell? ⟨gk, i * 6 + 5, none⟩ = some (.bool kx.f5)) ∧ w'.cell? (ad.add (i * 6)) = some (.int .i64 kx.f0) ∧ w'.cell? ⟨(ad.add (i * 6)).block, (ad.add (i * 6)).off + 1, none⟩ = some (.int .i64 kx.f1) ∧ w'.cell? ⟨(ad.add (i * 6)).block, (ad.add (i * 6)).off + 2, none⟩ = some (.int .i64 kx.f2) ∧ w'.cell? ⟨(ad.add (i * 6)).block, (ad.add (i * 6)).off + 3, none⟩ = some (.int .i64 kx.f3) ∧ w'.cell? ⟨(ad.add (i * 6)).block, (ad.add (i * 6)).off + 4, none⟩ = some (.int .u16 kx.f4) ∧ w'.cell? ⟨(ad.add (i * 6)).block, (ad.add (i * 6)).off + 5, none⟩ = some (.bool kx.f5))
        (exact ⟨u0, u1, ⟨x0, x1, x2, x3, x4, x5⟩, y0, y1, y2, y3, y4, y5⟩)
        (fail)
      go_wp2
      obtain ⟨hR, hG, hb⟩ := key_put HA.out.copy i HLT.out ⟨7, 7, 0, 0, 0, false⟩
      have hN := (HA.out.next ⟨7, 7, 0, 0, 0, false⟩ hR hG (six_below HA.out.below hb _ _ _ _ _ _)).step (drew_step _)
      have hP := (HPO.out.next HA.out.copy hG).below (drew_step _)
      exact ⟨⟨i + 1, _, by go_num, HLT.out, ⟨hN⟩, ⟨hP⟩⟩, by simp [intOf]; omega⟩
    · have u1 := (blk_cell HA.out.z1 0).trans (HO0.out _)
      have hge : i = l0.length := by omega
      subst hge
      clear hlt hi
      rcases HPO.out with rfl | ⟨g, rfl, hq, ho⟩
      · go_wp2
        go_ret
        exact ⟨rfl, HA.out.below⟩
      · have HO := Aside0.mk ho
        clear ho HPO
        go_upto_region 14 with (fail)
        obtain ⟨q1, q2, q3, q4, q5⟩ := chk_facts hq
        have q6 : mn < 1024 := by omega
        have hfit := eff_fit (m := m) (b := modB m) (fun k hk => fit_of_right k (q5 k hk))
        have hsml := eff_small hm q6 (fun k hk1 => by
          obtain ⟨n, e1, e2⟩ := hk k hk1
          exact ⟨n, e1, right_small k n e1 e2 (q5 k hk1)⟩)
        have hlen := eff_len m (modB m) l0
        have HEFF := Aside0.mk (HEFF.out q6)
        clear hq q5 hk q6
        generalize effKeys m (modB m) l0 = K at *
        have hK1 : 0 < K.length := by omega
        have hK2 : K.length ≤ 16 := by omega
        clear hlen q1 q4
        have HCN := Aside0.mk (fun W ho => count_calls K t g (!st && !un) (bits .and .u16 m 512 != 0) W ho)
        have hsp : spanAt s t K 0 = spanI s t (K.getD 0 zKy) := by unfold spanAt; rw [if_pos ⟨by omega, by omega⟩]; rfl
        have HSP := Aside0.mk (fun W ho => ospan_calls s hs K hfit t q2 q3 g (!st && !un) (bits .and .u16 m 512 != 0) W ho 0 hK2)
        rw [hsp] at HSP
        clear hsp
        have hmem : K.getD 0 zKy ∈ K := by rw [List.getD_eq_getElem?_getD, List.getElem?_eq_getElem hK1, Option.getD_some]; exact List.getElem_mem hK1
        obtain ⟨mk, hmk, hmk2⟩ := hsml _ hmem
        obtain ⟨kk, hkk⟩ := ref_span s hs t q2 q3 (K.getD 0 zKy) (hfit _ hmem) mk hmk hmk2
        have HRS := Aside0.mk (fun W => millref5_Span.calls kk s _ _ _ _ _ _ t (spanI s t (K.getD 0 zKy)).1 (spanI s t (K.getD 0 zKy)).2 W (hkk kk (Nat.le_refl _)))
        clear hkk hmk hmk2 hmem hfit hsml
        generalize spanI s t (K.getD 0 zKy) = rr at HRS HSP
        obtain ⟨r1, r2⟩ := rr
        have HK1 := Aside0.mk hK1
        have HK2 := Aside0.mk hK2
        have HB := Aside0.mk HA.out.below
        have HZ0 := Aside0.mk HA.out.z0
        clear HA hK1 hK2 q2 q3
        go_upto_region 17 with (first
          | (refine wpList_load_row rfl 28 _ rfl g0 rfl 28 (O (.slice A0 l0.length c0)) (0, 0) _ HZ0.out HU.out rfl (HSZ.out _) ?_)
          | (go_at_call 13; refine Calls.mono (HEFF.out _ HB.out) ?_; rintro e w4 ⟨v9, rfl, hR9, hb4⟩; obtain ⟨g9, cap9, rfl, hg9, _, _⟩ := Kd.R_form hR9 HK1.out; have HR9 := Aside0.mk hR9; replace HB := Aside0.mk (bstep HB.out hb4); replace HZ0 := Aside0.mk ((hb4.block _ (blk_lt HZ0.out)).trans HZ0.out); replace HO := Aside0.mk (HO.out.below hb4); clear hR9 hb4 hg9 HEFF)
          | (go_at_call 14; refine Calls.mono (HCN.out _ HO.out) ?_; rintro e w5 ⟨rfl, hb5⟩; replace HB := Aside0.mk (bstep HB.out hb5); replace HZ0 := Aside0.mk ((hb5.block _ (blk_lt HZ0.out)).trans HZ0.out); replace HO := Aside0.mk (HO.out.below hb5); replace HR9 := Aside0.mk (Kd.R_below HR9.out hb5); clear hb5 HCN)
          | (go_at_call 15; refine Calls.mono (HSP.out _ HO.out) ?_; rintro e w6 ⟨rfl, hb6⟩; replace HB := Aside0.mk (bstep HB.out hb6); replace HZ0 := Aside0.mk ((hb6.block _ (blk_lt HZ0.out)).trans HZ0.out); replace HR9 := Aside0.mk (Kd.R_below HR9.out hb6); clear hb6 HSP HO))
        obtain ⟨W5, hW5⟩ : ∃ W5 : World, W5 = w6.alloc (.cells #[.int .i64 r1, .int .i64 r2] 37) := ⟨_, rfl⟩
        have hb5 : Below w6.heap.size w6 W5 := by rw [hW5]; exact (Below.refl _ _).alloc (Nat.le_refl _) _
        have z11 : W5.heap[w6.heap.size]? = some (.cells #[.int .i64 r1, .int .i64 r2] 37 (0, 0)) := by rw [hW5]; exact heap_alloc_new _ _
        replace HB := Aside0.mk (bstep HB.out hb5)
        replace HZ0 := Aside0.mk ((hb5.block _ (blk_lt HZ0.out)).trans HZ0.out)
        replace HR9 := Aside0.mk (Kd.R_below HR9.out hb5)
        rw [← hW5]
        clear hW5 hb5 u1
        have a0 := blk_cell z11 0
        have a1 := blk_cell z11 1
        simp at a0 a1
        clear z11
        have at5 := (blk_cell HZ0.out 2).trans (HO2.out _)
        obtain ⟨ad9, e9, x0, x1, x2, x3, x4, x5⟩ := at_T33 (Kd.R_reads' HR9.out).2.2 0 (by decide) (by have := HK1.out; omega)
        obtain rfl := Option.some.inj e9
        have hrd : rd_T33 K 0 = K.getD 0 zKy := rfl
        rw [hrd] at x0 x1 x2 x3 x4 x5
        simp only [add_plain, Int.toNat_zero, Nat.zero_mul, Nat.zero_add] at x0 x1 x2 x3 x4 x5
        clear hrd HR9 HZ0
        generalize K.getD 0 zKy = kx at *
        generalize w6.heap.size = g11 at *
        have hu2 := Tryd.underlying33
        have hu3 := Tryd.underlying37
        have hK1 := HK1.out
        generalize K.length = kn at *
        have hg9 := World.block_lt_of_cell? W5 _ x0
        have hg11 : g11 < W5.heap.size := World.block_lt_of_cell? W5 _ a0
        have hne11 : g11 ≠ W5.heap.size := by omega
        have hg0 := World.block_lt_of_cell? W5 _ at5
        have HBd : Aside0 (Below W5.heap.size W5 W5.drew) := ⟨drew_step _⟩
        have KP := Aside0.mk (fun (w' : World) (hb : Aside0 (Below W5.heap.size W5 w')) => (⟨cell_stays hb.out at5, cell_stays hb.out x0, cell_stays hb.out x1, cell_stays hb.out x2, cell_stays hb.out x3, cell_stays hb.out x4, cell_stays hb.out x5, hb⟩ : w'.cell? ⟨g0, 2, none⟩ = some (.int .i64 t) ∧ w'.cell? ⟨g9, 0, none⟩ = some (.int .i64 kx.f0) ∧ w'.cell? ⟨g9, 1, none⟩ = some (.int .i64 kx.f1) ∧ w'.cell? ⟨g9, 2, none⟩ = some (.int .i64 kx.f2) ∧ w'.cell? ⟨g9, 3, none⟩ = some (.int .i64 kx.f3) ∧ w'.cell? ⟨g9, 4, none⟩ = some (.int .u16 kx.f4) ∧ w'.cell? ⟨g9, 5, none⟩ = some (.bool kx.f5) ∧ Aside0 (Below W5.heap.size W5 w')))
        go_region_held3 (fun w' => w'.cell? ⟨g0, 2, none⟩ = some (.int .i64 t) ∧ w'.cell? ⟨g9, 0, none⟩ = some (.int .i64 kx.f0) ∧ w'.cell? ⟨g9, 1, none⟩ = some (.int .i64 kx.f1) ∧ w'.cell? ⟨g9, 2, none⟩ = some (.int .i64 kx.f2) ∧ w'.cell? ⟨g9, 3, none⟩ = some (.int .i64 kx.f3) ∧ w'.cell? ⟨g9, 4, none⟩ = some (.int .u16 kx.f4) ∧ w'.cell? ⟨g9, 5, none⟩ = some (.bool kx.f5) ∧ Aside0 (Below W5.heap.size W5 w'))
          ((refine KP.out _ ?_; first | assumption | exact ⟨below_set (below_set (Aside0.out (by assumption)) (by first | exact Nat.le_refl _ | exact (Aside0.out (p := Below W5.heap.size W5 _) (by assumption)).size)) (by first | exact Nat.le_refl _ | exact (Aside0.out (p := Below W5.heap.size W5 _) (by assumption)).size)⟩ | exact ⟨Below.alloc (Aside0.out (by assumption)) (Aside0.out (p := Below W5.heap.size W5 _) (by assumption)).size _⟩ | exact ⟨((Below.refl _ _).alloc (Nat.le_refl _) _).drew⟩ | exact ⟨((Below.refl _ _).drew).alloc (Nat.le_refl _) _⟩ | exact ⟨((Below.refl _ _).alloc (Nat.le_refl _) _)⟩ | exact aside_drew (by assumption)))
          (first
            | (go_at_call 16; refine Calls.mono (HRS.out _) ?_; rintro e w7 ⟨rfl, hb7⟩; have HB7 : Aside0 (Below W5.heap.size W5 w7) := ⟨bstep (by first | exact Aside0.out (by assumption) | exact ((Below.refl _ _).alloc (Nat.le_refl _) _).drew | exact ((Below.refl _ _).drew).alloc (Nat.le_refl _) _ | exact ((Below.refl _ _).alloc (Nat.le_refl _) _)) hb7⟩; have b0 := cell_stays HB7.out a0; have b1 := cell_stays HB7.out a1; have hlt7 : g11 < w7.heap.size := Nat.lt_of_lt_of_le hg11 HB7.out.size; have hw57 := HB7.out.size; (try (have hz9 := (hb7.block W5.heap.size (by simp)).trans (by first | exact heap_alloc_new W5 _ | exact heap_alloc_new W5.drew _); have z0 := blk_cell hz9 0; have z1 := blk_cell hz9 1; have f0 := blk_frozen hz9 0; have f1 := blk_frozen hz9 1; simp at z0 z1; clear hz9)); clear hb7))
        all_goals
          go_wp2
          go_ret
          refine ⟨rfl, bstep HB.out ?_⟩
          first
            | exact HB7.out.alloc HB7.out.size _
            | exact below_set (below_set HB7.out (Nat.le_refl _)) (Nat.le_refl _)
            | exact below_set (below_set (HB7.out.alloc HB7.out.size _) hw57) hw57
end Go.Proofs.YtnnoegjgaelafaaDoor.Pr
