/- The walk of the law CollateWhole. -/
import Derived.Test.YtnnoegjgaelafaaDoorQWholeBd
import Derived.Test.YtnnoegjgaelafaaDoorQWholeBe
namespace Go.Proofs.YtnnoegjgaelafaaDoor.Pr
open Go.RowKit Go.Proofs.YtnnoegjgaelafaaDoorW.PrintWords Go.Proofs.YtnnoegjgaelafaaDoorW.PrintLast
set_option linter.unusedVariables false
set_option linter.unusedSimpArgs false

def kW (m : Int) : Ky := ⟨1, 1, 0, 0, m, false⟩
theorem right_kW (n : Nat) (h : n < 1024) : rightB (kW (n : Int)) = true := by
  have ha := and_small n (by omega)
  rw [decide_eq_true h] at ha
  unfold rightB collate_right.f kW
  simp [ha]
theorem tog_same (l l' : List Ky) (h : l.map (·.f4) = l'.map (·.f4)) : l.all (fun k => togB k.f4.toNat) = l'.all (fun k => togB k.f4.toNat) := by
  have e : ∀ l : List Ky, l.all (fun k => togB k.f4.toNat) = (l.map (·.f4)).all (fun x => togB x.toNat) := fun l => by rw [List.all_map]; rfl
  rw [e, e, h]
theorem eff_kW (m : Int) (n : Int) (h : n = 0 ∨ n = m) : (effKeys m (modB m) [kW n]).map (·.f4) = [m] := by
  unfold effKeys
  rw [if_neg (by simp)]
  simp only [List.map_cons, List.map_nil]
  unfold effKey kW
  rcases h with rfl | rfl
  · rfl
  · split <;> rfl
theorem chk_kW (m t : Int) (mn : Nat) (hm : m = (mn : Int)) (n : Int) (h : n = 0 ∨ n = m) : chkB [kW n] m t = chkB [] m t := by
  unfold chkB
  rw [tog_same (effKeys m (modB m) [kW n]) (effKeys m (modB m) []) (eff_kW m n h)]
  by_cases hlt : m < 1024
  · have hr : rightB (kW n) = true := by
      rcases h with rfl | rfl
      · exact right_kW 0 (by decide)
      · rw [hm]; exact right_kW mn (by omega)
    simp [hr]
  · rw [decide_eq_false hlt]; simp
theorem part_end (s : ByteArray) (t m : Int) (b : Bool) : partK s t ⟨1, 1, 0, 0, m, b⟩ = partK s t (kW m) := by
  have e : textI s t ⟨1, 1, 0, 0, m, b⟩ = textI s t (kW m) := by
    unfold textI spanI toI kW fromI
    simp
  unfold partK
  rw [e]
  rfl
theorem keys_kW (C : Cmp) (a b : ByteArray) (t m n : Int) (h : n = 0 ∨ n = m) : keysL C a b t (effKeys m (modB m) [kW n]) = keysL C a b t (effKeys m (modB m) []) := by
  have key : ∀ e : Bool, keysL C a b t [⟨1, 1, 0, 0, m, e⟩] = keysL C a b t [kW m] := fun e => by
    rw [keysL_cons, keysL_cons, part_end, part_end]; rfl
  have e0 : effKeys m (modB m) [] = [⟨1, 1, 0, 0, m, modB m⟩] := rfl
  have e1 : ∃ q : Bool, effKeys m (modB m) [kW n] = [⟨1, 1, 0, 0, m, q⟩] := by
    unfold effKeys
    rw [if_neg (by simp)]
    simp only [List.map_cons, List.map_nil]
    unfold effKey kW
    rcases h with rfl | rfl
    · exact ⟨_, rfl⟩
    · split <;> exact ⟨_, rfl⟩
  obtain ⟨q, e1⟩ := e1
  rw [e0, e1, key, key]
theorem comp_kW (C : Cmp) (a b : ByteArray) (t m n : Int) (last turned : Bool) (h : n = 0 ∨ n = m) : compL C a b t last turned (effKeys m (modB m) [kW n]) = compL C a b t last turned (effKeys m (modB m) []) := by
  unfold compL; rw [keys_kW C a b t m n h]
theorem keys_plain (a b : ByteArray) : keysL cmpAll a b (-1) (effKeys 0 (modB 0) []) = cmpS a b := by
  have hp : ∀ s : ByteArray, partK s (-1) ⟨1, 1, 0, 0, 0, modB 0⟩ = s := fun s => by
    unfold partK
    rw [if_pos (by decide), text_whole1 s 0 (modB 0) (by decide)]
    exact filtS_none s
  have e0 : effKeys 0 (modB 0) [] = [⟨1, 1, 0, 0, 0, modB 0⟩] := rfl
  have hc : cmpAll.cmp (kindI ⟨1, 1, 0, 0, 0, modB 0⟩) a b = cmpS a b := by
    show Nu.cmpN (bits .and .u16 0 496) a b = cmpS a b
    rw [show bits .and .u16 0 496 = 0 by decide]
    unfold Nu.cmpN cmpS
    rw [if_neg (by decide), if_neg (by decide), if_neg (by decide), if_neg (by decide)]
  rw [e0, keysL_cons, hp, hp, hc]
  by_cases h : cmpS a b = 0
  · rw [if_pos h, h]; rfl
  · rw [if_neg h, if_neg (by decide)]
theorem comp_plain (a b : ByteArray) : compL cmpAll a b (-1) true false (effKeys 0 (modB 0) []) = cmpS a b := by
  unfold compL
  rw [keys_plain]
  by_cases h : cmpS a b = 0
  · rw [if_pos h, if_pos rfl, if_neg (by decide)]
  · rw [if_neg h]
/-- Two options' boxes, the tables. -/
structure BxW (w : World) (cs : Array Value) (g0 : Nat) (wc : World) : Prop where
  box : wc.heap[g0]? = some (.cells cs 28 (0, 0))
  lo : w.heap.size ≤ g0
  tab : GTab wc
  bel : Below w.heap.size w wc
theorem BxW.step {w : World} {cs : Array Value} {g0 : Nat} {wc w' : World} (h : BxW w cs g0 wc) (hb : Below wc.heap.size wc w') : BxW w cs g0 w' :=
  ⟨(hb.block _ (blk_lt h.box)).trans h.box, h.lo, h.tab.stay hb, bstep h.bel hb⟩
theorem gtab_set {w : World} (h : GTab w) {g : Nat} (hg : 2 < g) (k : Nat) (v : Value) : GTab (w.setCell ⟨g, k, none⟩ v) := by
  obtain ⟨⟨t1, f1, h1⟩, ⟨t2, f2, h2⟩⟩ := h
  exact ⟨⟨t1, f1, (Below.heap_setCell w ⟨g, k, none⟩ v 1 (by simp; omega)).trans h1⟩, ⟨t2, f2, (Below.heap_setCell w ⟨g, k, none⟩ v 2 (by simp; omega)).trans h2⟩⟩
theorem BxW.setRow {w : World} {cs cs' : Array Value} {g0 g1 : Nat} {wc : World} (h : BxW w cs g0 wc) (hne : g0 ≠ g1) (hlo : w.heap.size ≤ g1) (h2 : 2 < g1) : BxW w cs g0 (wc.setRow g1 cs') := by
  refine ⟨(setRow_other wc g1 g0 cs' hne).trans h.box, h.lo, ?_, below_setRow h.bel g1 hlo cs'⟩
  obtain ⟨⟨t1, f1, h1⟩, ⟨t2, f2, h2'⟩⟩ := h.tab
  exact ⟨⟨t1, f1, (setRow_other wc g1 1 cs' (by omega)).trans h1⟩, ⟨t2, f2, (setRow_other wc g1 2 cs' (by omega)).trans h2'⟩⟩
theorem BxW.setOther {w : World} {cs : Array Value} {g0 g1 : Nat} {wc : World} (h : BxW w cs g0 wc) (hne : g0 ≠ g1) (hlo : w.heap.size ≤ g1) (h2 : 2 < g1) (k : Nat) (v : Value) : BxW w cs g0 (wc.setCell ⟨g1, k, none⟩ v) :=
  ⟨blk_far h.box hne v, h.lo, gtab_set h.tab h2 k v, below_set h.bel hlo⟩
theorem BxW.setOwn {w : World} {O : Value → Array Value} {u v : Value} {g0 : Nat} {wc : World} (h : BxW w (O u) g0 wc) (hO : (O u).setIfInBounds 0 v = O v) (h2 : 2 < g0) : BxW w (O v) g0 (wc.setCell ⟨g0, 0, none⟩ v) :=
  ⟨blk_put h.box 0 v hO, h.lo, gtab_set h.tab h2 0 v, below_set h.bel h.lo⟩
theorem tab_lt {w : World} (h : GTab w) : 2 < w.heap.size := by
  obtain ⟨_, ⟨t2, f2, h2⟩⟩ := h
  exact blk_lt h2
/-- An order that was made when the memory held fewer than lim blocks, and stands still. -/
def OrdK (lim : Nat) (g : Nat) (K : List Ky) (t : Int) (last turned : Bool) (wc : World) : Prop := ∃ wp : World, OrdW wp g K t last turned ∧ wp.heap.size ≤ lim ∧ Below wp.heap.size wp wc
theorem OrdK.ord {lim g : Nat} {K : List Ky} {t : Int} {last turned : Bool} {wc : World} (h : OrdK lim g K t last turned wc) : OrdW wc g K t last turned := by
  obtain ⟨wp, h1, _, h3⟩ := h; exact h1.below h3
theorem OrdK.step {lim g : Nat} {K : List Ky} {t : Int} {last turned : Bool} {wc w' : World} (h : OrdK lim g K t last turned wc) (hb : Below wc.heap.size wc w') : OrdK lim g K t last turned w' := by
  obtain ⟨wp, h1, h2, h3⟩ := h; exact ⟨wp, h1, h2, bstep h3 hb⟩
theorem OrdK.setRow {lim g : Nat} {K : List Ky} {t : Int} {last turned : Bool} {wc : World} (h : OrdK lim g K t last turned wc) {g1 : Nat} (hl : lim ≤ g1) (cs : Array Value) : OrdK lim g K t last turned (wc.setRow g1 cs) := by
  obtain ⟨wp, h1, h2, h3⟩ := h; exact ⟨wp, h1, h2, below_setRow h3 g1 (Nat.le_trans h2 hl) cs⟩
theorem OrdK.setCell {lim g : Nat} {K : List Ky} {t : Int} {last turned : Bool} {wc : World} (h : OrdK lim g K t last turned wc) {g1 : Nat} (hl : lim ≤ g1) (k : Nat) (v : Value) : OrdK lim g K t last turned (wc.setCell ⟨g1, k, none⟩ v) := by
  obtain ⟨wp, h1, h2, h3⟩ := h; exact ⟨wp, h1, h2, below_set h3 (Nat.le_trans h2 hl)⟩
theorem BxW.made {w : World} {cs : Array Value} {g0 g1 : Nat} {wc : World} {zs : Array Value} (h : BxW w cs g0 wc) (hz : wc.heap[g1]? = some (.cells zs 28 (0, 0))) (hlo : w.heap.size ≤ g1) (h2 : 2 < g1) (cs' : Array Value) : BxW w cs' g1 (wc.setRow g1 cs') := by
  refine ⟨setRow_heap _ _ _ _ _ _ hz, hlo, ?_, below_setRow h.bel g1 hlo cs'⟩
  obtain ⟨⟨t1, f1, h1⟩, ⟨t2, f2, h2'⟩⟩ := h.tab
  exact ⟨⟨t1, f1, (setRow_other wc g1 1 cs' (by omega)).trans h1⟩, ⟨t2, f2, (setRow_other wc g1 2 cs' (by omega)).trans h2'⟩⟩
set_option maxHeartbeats 8000000 in
set_option maxRecDepth 100000 in
theorem whole_good (m t : Int) (st un : Bool) (r : Rest) (h17 : r.r17.oneCell' = true) (v0 : Value) (hv0 : v0.oneCell' = true) (a b : ByteArray) (ha : a.size ≤ 1048576) (hb : b.size ≤ 1048576) (w : World) (hG : GTab w) (mn : Nat) (hm : m = (mn : Int)) (hm2 : mn < 65536) (hq : chkB [] m t = true) :
    Calls Tryd.prog 7 #[.agg (optVal v0 m t st un r), .string a, .string b] w fun e w' => e = .returned (.bool true) ∧ Below w.heap.size w w' := by
  have HU := Aside0.mk Tryd.underlying28
  obtain ⟨zs, hzs, haz⟩ := alloc_opts1
  have HAZ := Aside0.mk haz
  clear haz
  obtain ⟨O, hO⟩ : ∃ O : Value → Array Value, ∀ v, O v = optVal v m t st un r := ⟨fun v => optVal v m t st un r, fun _ => rfl⟩
  have HO0 : Aside0 (∀ v, (O v)[0]? = some v) := ⟨fun v => by rw [hO]; rfl⟩
  have HO1 : Aside0 (∀ v, (O v)[1]? = some (.int .u16 m)) := ⟨fun v => by rw [hO]; rfl⟩
  have HOS : Aside0 (∀ v u, (O v).setIfInBounds 0 u = O u) := ⟨fun v u => by rw [hO, hO]; rfl⟩
  have HOZ : Aside0 (∀ v, (O v).size = 18) := ⟨fun v => by rw [hO]; rfl⟩
  have HSZ : Aside0 (∀ v, (Tryd.prog.info? 28).map (·.size) = some (O v).size) := ⟨fun v => by rw [HOZ.out]; kernel_rfl⟩
  have HOC : Aside0 (∀ v : Value, v.oneCell' = true → (O v).all (·.oneCell') = true) := ⟨fun v hv => by rw [hO]; simp [optVal, Value.oneCell']; exact ⟨hv, h17⟩⟩
  obtain ⟨hlen, h1, h2, hm3, _⟩ := cfacts hq
  generalize hlast : (!st && !un) = last at *
  generalize hturn : (bits .and .u16 m 512 != 0) = turned at *
  have HMay : Aside0 (∀ (A : Option Addr) (c : Nat) (l : List Ky) (W : World), Kd.C k33 W A l.length l → l.length ≤ c → l.length ≤ 1 → (∀ k ∈ l, ∃ n : Nat, k.f4 = (n : Int) ∧ n < 65536) → chkB l m t = true → Calls Tryd.prog 19 #[.agg (O (.slice A l.length c))] W fun e w' => ∃ g, e = .returned (.tuple #[.pointer (some ⟨g, 0, none⟩), .bool true]) ∧ OrdW w' g (effKeys m (modB m) l) t last turned ∧ Below W.heap.size W w') := ⟨fun A c l W hC hc hl hk hql => by
    rw [hO]
    refine (may_calls A c l m t st un r W hC hc (by omega) mn hm hm2 hk).mono (fun e w' h => ?_)
    rcases h with ⟨hbad, _⟩ | ⟨_, g, he, ho, _, hb⟩
    · rw [hql] at hbad; exact absurd hbad (by decide)
    · rw [hlast, hturn] at ho; exact ⟨g, he, ho, hb⟩⟩
  have M0 : Aside0 (∀ W : World, Calls Tryd.prog 19 #[.agg (O (.slice none 0 0))] W fun e w' => ∃ g, e = .returned (.tuple #[.pointer (some ⟨g, 0, none⟩), .bool true]) ∧ OrdW w' g (effKeys m (modB m) []) t last turned ∧ Below W.heap.size W w') := ⟨fun W => HMay.out none 0 [] W (Kd.C_nil _ _) (by decide) (by decide) (fun k hk => by cases hk) hq⟩
  have M1 : Aside0 (∀ (gk : Nat) (W : World), W.heap[gk]? = some (.cells #[.int .i64 1, .int .i64 1, .int .i64 0, .int .i64 0, .int .u16 0, .bool false] 33 (0, 0)) → Calls Tryd.prog 19 #[.agg (O (.slice (some ⟨gk, 0, none⟩) 1 1))] W fun e w' => ∃ g, e = .returned (.tuple #[.pointer (some ⟨g, 0, none⟩), .bool true]) ∧ OrdW w' g (effKeys m (modB m) [kW 0]) t last turned ∧ Below W.heap.size W w') := ⟨fun gk W hk => HMay.out (some ⟨gk, 0, none⟩) 1 [kW 0] W (key1_C (kW 0) hk) (Nat.le_refl _) (Nat.le_refl _) (fun k hk => by simp at hk; rw [hk]; exact ⟨0, rfl, by decide⟩) ((chk_kW m t mn hm 0 (.inl rfl)).trans hq)⟩
  have M2 : Aside0 (∀ (gk : Nat) (W : World), W.heap[gk]? = some (.cells #[.int .i64 1, .int .i64 1, .int .i64 0, .int .i64 0, .int .u16 m, .bool false] 33 (0, 0)) → Calls Tryd.prog 19 #[.agg (O (.slice (some ⟨gk, 0, none⟩) 1 1))] W fun e w' => ∃ g, e = .returned (.tuple #[.pointer (some ⟨g, 0, none⟩), .bool true]) ∧ OrdW w' g (effKeys m (modB m) [kW m]) t last turned ∧ Below W.heap.size W w') := ⟨fun gk W hk => HMay.out (some ⟨gk, 0, none⟩) 1 [kW m] W (key1_C (kW m) hk) (Nat.le_refl _) (Nat.le_refl _) (fun k hk => by simp at hk; rw [hk]; exact ⟨mn, hm, hm2⟩) ((chk_kW m t mn hm m (.inr rfl)).trans hq)⟩
  have fitK : ∀ l : List Ky, (∀ k ∈ l, rightB k = true) → ∀ k ∈ effKeys m (modB m) l, Fit k := fun l h => efit fun k hk => fit_of_right k (h k hk)
  have CC : ∀ (l : List Ky), (∀ k ∈ l, rightB k = true) → l.length ≤ 1 → compL cmpAll a b t last turned (effKeys m (modB m) l) = compL cmpAll a b t last turned (effKeys m (modB m) []) → ∀ (g : Nat) (W : World), OrdW W g (effKeys m (modB m) l) t last turned → GTab W → Calls Tryd.prog 23 #[.pointer (some ⟨g, 0, none⟩), .string a, .string b] W fun e w' => e = .returned (.int .i64 (compL cmpAll a b t last turned (effKeys m (modB m) []))) ∧ Below W.heap.size W w' := fun l hr hl he g W ho hG => by
    rw [← he]
    exact compare_calls cmpAll a b ha hb _ (fitK l hr) (fun _ _ => trivial) t h1 h2 g last turned W ho (by rw [elen]; omega) hG
  have hmlt : mn < 1024 := by omega
  have C0 := Aside0.mk (CC [] (fun k hk => by cases hk) (by decide) rfl)
  have C1 := Aside0.mk (CC [kW 0] (fun k hk => by simp at hk; rw [hk]; exact right_kW 0 (by decide)) (Nat.le_refl _) (comp_kW cmpAll a b t m 0 last turned (.inl rfl)))
  have C2 := Aside0.mk (CC [kW m] (fun k hk => by simp at hk; rw [hk, hm]; exact right_kW mn hmlt) (Nat.le_refl _) (comp_kW cmpAll a b t m m last turned (.inr rfl)))
  have HP : Aside0 (∀ W : World, Calls Tryd.prog 19 #[.agg (optVal (.slice none 0 0) 0 (-1) false false zRest1)] W fun e w' => ∃ g, e = .returned (.tuple #[.pointer (some ⟨g, 0, none⟩), .bool true]) ∧ OrdW w' g (effKeys 0 (modB 0) []) (-1) true false ∧ Below W.heap.size W w') := ⟨fun W => by
    refine (may_calls none 0 [] 0 (-1) false false zRest1 W (Kd.C_nil _ _) (by decide) (by decide) 0 rfl (by decide) (fun k hk => by cases hk)).mono (fun e w' h => ?_)
    rcases h with ⟨hbad, _⟩ | ⟨_, g, he, ho, _, hb⟩
    · exact absurd hbad (by decide +kernel)
    · exact ⟨g, he, ho, hb⟩⟩
  have fit0 : ∀ k ∈ effKeys 0 (modB 0) [], Fit k := efit (fun k hk => by cases hk)
  have CP : Aside0 (∀ (g : Nat) (W : World), OrdW W g (effKeys 0 (modB 0) []) (-1) true false → GTab W → Calls Tryd.prog 23 #[.pointer (some ⟨g, 0, none⟩), .string a, .string b] W fun e w' => e = .returned (.int .i64 (cmpS a b)) ∧ Below W.heap.size W w') := ⟨fun g W ho hG => by
    rw [← comp_plain a b]
    exact compare_calls cmpAll a b ha hb _ fit0 (fun _ _ => trivial) (-1) (by decide) (by decide) g true false W ho (by decide) hG⟩
  have KP : Aside0 (∀ (g : Nat) (W : World), OrdW W g (effKeys 0 (modB 0) []) (-1) true false → GTab W → Calls Tryd.prog 20 #[.pointer (some ⟨g, 0, none⟩), .string a, .string b] W fun e w' => e = .returned (.int .i64 (cmpS a b)) ∧ Below W.heap.size W w') := ⟨fun g W ho hG => by
    rw [← keys_plain a b]
    exact keys_calls cmpAll a b ha hb _ fit0 (fun _ _ => trivial) (-1) (by decide) (by decide) g true false W ho (by decide) hG⟩
  have HBu := Aside0.mk build_opts1
  obtain ⟨D, hD⟩ : ∃ D : Array Value, optVal (.slice none 0 0) 0 (-1) false false zRest1 = D := ⟨_, rfl⟩
  have HDZ : Aside0 (D.size = 18) := ⟨by rw [← hD]; rfl⟩
  have HDS : Aside0 ((Tryd.prog.info? 28).map (·.size) = some D.size) := ⟨by rw [HDZ.out]; kernel_rfl⟩
  have HDC : Aside0 (D.all (·.oneCell') = true) := ⟨by rw [← hD]; simp [optVal, zRest1, Value.oneCell']⟩
  rw [hD] at HP HBu
  have hL1 := str_less1 a b
  have hL2 := str_eq1 a b
  have hR := cmpB_rng a.data.toList b.data.toList
  change -1 ≤ cmpS a b ∧ cmpS a b ≤ 1 at hR
  have HL1 := Aside0.mk hL1
  have HL2 := Aside0.mk hL2
  have HR3 : Aside0 (cmpS a b = -1 ∨ cmpS a b = 0 ∨ cmpS a b = 1) := ⟨by omega⟩
  rw [← hO]
  have HV0 := Aside0.mk hv0
  generalize compL cmpAll a b t last turned (effKeys m (modB m) []) = rab at *
  generalize cmpS a b = rn at *
  have HGT := Aside0.mk hG
  clear hO hlast hturn h17 HMay fitK CC hq h1 h2 hm3 hmlt hm hm2 hlen fit0 hD hL1 hL2 hR hG hv0
  generalize effKeys m (modB m) [] = K0 at *
  generalize effKeys m (modB m) [kW 0] = K1 at *
  generalize effKeys m (modB m) [kW m] = K2 at *
  generalize effKeys 0 (modB 0) [] = KD at *
  go_enter Tryd.func7, Tryd.ntmps7
  go_upto_region 1 with (first
    | (refine box_event rfl (N := 3) rfl (cs := O v0) (t := 28) (box_opts _ _ _ rfl _ rfl _) ?_; intro g0 hg0 W0 hz0 hb0; have HX : Aside0 (BxW w (O v0) g0 W0) := ⟨⟨hz0, by rw [hg0]; exact Nat.le_refl _, HGT.out.stay hb0, hb0⟩⟩; have HG0 : Aside0 (2 < g0) := ⟨by rw [hg0]; exact tab_lt HGT.out⟩; clear hz0 hb0 hg0))
  have y0 := (blk_cell HX.out.box 0).trans (HO0.out _)
  have f0 := blk_frozen HX.out.box 0
  go_upto_region 2 with (fail)
  obtain ⟨W1, hW1⟩ : ∃ W1 : World, W1 = W0.setCell ⟨g0, 0, none⟩ (.slice none 0 0) := ⟨_, rfl⟩
  have HX1 : Aside0 (BxW w (O (.slice none 0 0)) g0 W1) := ⟨by rw [hW1]; exact HX.out.setOwn (HOS.out _ _) HG0.out⟩
  rw [← hW1]
  clear hW1 HX y0 f0
  have HX := HX1
  clear HX1
  go_upto_region 3 with (first
    | (refine wpList_load_row rfl 28 _ rfl g0 rfl 28 (O (.slice none 0 0)) (0, 0) _ HX.out.box HU.out rfl (HSZ.out _) ?_)
    | (go_at_call 19; refine Calls.mono (M0.out _) ?_; rintro e w2 ⟨gA, rfl, ho, hb⟩; have HOA := Aside0.mk ho; replace HX := Aside0.mk (HX.out.step hb); clear hb ho M0))
  -- p := o
  go_upto_region 4 with (first
    | (refine wpList_load_row rfl 28 _ rfl g0 rfl 28 (O (.slice none 0 0)) (0, 0) _ HX.out.box HU.out rfl (HSZ.out _) ?_)
    | (refine box_event rfl (N := 9) rfl (cs := zs) (t := 28) (HAZ.out _ _ _ rfl) ?_; intro g1 hg1 W3 hz1 hb1; have HZ1 := Aside0.mk hz1; have HN01 : Aside0 (g0 ≠ g1) := ⟨by have := blk_lt HX.out.box; omega⟩; have HG1 : Aside0 (2 < g1 ∧ w.heap.size ≤ g1) := ⟨by have h1 := HX.out.bel.size; have h2 := tab_lt HX.out.tab; omega⟩; replace HX := Aside0.mk (HX.out.step hb1); have HKA : Aside0 (OrdK g1 gA K0 t last turned W3) := ⟨⟨_, HOA.out, Nat.le_of_eq hg1.symm, hb1⟩⟩; clear hz1 hb1 hg1 HOA)
    | (refine wpList_store_rowTo rfl 28 _ _ rfl rfl g1 (O (.slice none 0 0)) rfl rfl 28 zs HZ1.out (HSZ.out _) (hzs.trans (HOZ.out _).symm) (HOC.out _ rfl) ?_))
  obtain ⟨W4, hW4⟩ : ∃ W4 : World, W4 = W3.setRow g1 (O (.slice none 0 0)) := ⟨_, rfl⟩
  have HXp : Aside0 (BxW w (O (.slice none 0 0)) g1 W4) := ⟨by rw [hW4]; exact HX.out.made HZ1.out HG1.out.2 HG1.out.1 _⟩
  replace HX : Aside0 (BxW w (O (.slice none 0 0)) g0 W4) := ⟨by rw [hW4]; exact HX.out.setRow HN01.out HG1.out.2 HG1.out.1⟩
  replace HKA : Aside0 (OrdK g1 gA K0 t last turned W4) := ⟨by rw [hW4]; exact HKA.out.setRow (Nat.le_refl _) _⟩
  rw [← hW4]
  clear hW4 HZ1
  -- p.Keys = ..
  have y0 := (blk_cell HXp.out.box 0).trans (HO0.out _)
  have f0 := blk_frozen HXp.out.box 0
  have hlt1 := blk_lt HXp.out.box
  go_upto_region 5 with (fail)
  obtain ⟨gk, hgk⟩ : ∃ gk : Nat, W4.heap.size = gk := ⟨_, rfl⟩
  rw [hgk]
  obtain ⟨W5, hW5⟩ : ∃ W5 : World, W5 = (W4.setCell ⟨g1, 0, none⟩ (.slice (some ⟨gk, 0, none⟩) 1 1)).alloc (.cells #[.int .i64 1, .int .i64 1, .int .i64 0, .int .i64 0, .int .u16 0, .bool false] 33) := ⟨_, rfl⟩
  have hst : Below (W4.setCell ⟨g1, 0, none⟩ (.slice (some ⟨gk, 0, none⟩) 1 1)).heap.size (W4.setCell ⟨g1, 0, none⟩ (.slice (some ⟨gk, 0, none⟩) 1 1)) W5 := by rw [hW5]; exact below_alloc (Below.refl _ _) _
  have HK1 : Aside0 (W5.heap[gk]? = some (.cells #[.int .i64 1, .int .i64 1, .int .i64 0, .int .i64 0, .int .u16 0, .bool false] 33 (0, 0))) := ⟨by rw [hW5, ← hgk]; exact (by simpa using heap_alloc_new (W4.setCell ⟨g1, 0, none⟩ (.slice (some ⟨W4.heap.size, 0, none⟩) 1 1)) (.cells #[.int .i64 1, .int .i64 1, .int .i64 0, .int .i64 0, .int .u16 0, .bool false] 33))⟩
  replace HXp : Aside0 (BxW w (O (.slice (some ⟨gk, 0, none⟩) 1 1)) g1 W5) := ⟨(HXp.out.setOwn (HOS.out _ _) HG1.out.1).step hst⟩
  replace HX : Aside0 (BxW w (O (.slice none 0 0)) g0 W5) := ⟨(HX.out.setOther HN01.out HG1.out.2 HG1.out.1 0 _).step hst⟩
  replace HKA : Aside0 (OrdK g1 gA K0 t last turned W5) := ⟨(HKA.out.setCell (Nat.le_refl _) 0 _).step hst⟩
  rw [← hW5]
  clear hW5 hst hgk y0 f0 hlt1
  go_upto_region 6 with (first
    | (refine wpList_load_row rfl 28 _ rfl g1 rfl 28 (O (.slice (some ⟨gk, 0, none⟩) 1 1)) (0, 0) _ HXp.out.box HU.out rfl (HSZ.out _) ?_)
    | (go_at_call 19; refine Calls.mono (M1.out gk _ HK1.out) ?_; rintro e w6 ⟨gB, rfl, ho, hb⟩; have HOB := Aside0.mk ho; replace HX := Aside0.mk (HX.out.step hb); replace HXp := Aside0.mk (HXp.out.step hb); replace HKA := Aside0.mk (HKA.out.step hb); clear hb ho M1 HK1))
  -- q := p
  go_upto_region 7 with (first
    | (refine wpList_load_row rfl 28 _ rfl g1 rfl 28 (O (.slice (some ⟨gk, 0, none⟩) 1 1)) (0, 0) _ HXp.out.box HU.out rfl (HSZ.out _) ?_)
    | (refine box_event rfl (N := 12) rfl (cs := zs) (t := 28) (HAZ.out _ _ _ rfl) ?_; intro g2 hg2 W7 hz2 hb2; have HZ2 := Aside0.mk hz2; have HN02 : Aside0 (g0 ≠ g2) := ⟨by have := blk_lt HX.out.box; omega⟩; have HL12 : Aside0 (g1 ≤ g2) := ⟨by have := blk_lt HXp.out.box; omega⟩; have HG2 : Aside0 (2 < g2 ∧ w.heap.size ≤ g2) := ⟨by have h1 := HX.out.bel.size; have h2 := tab_lt HX.out.tab; omega⟩; replace HX := Aside0.mk (HX.out.step hb2); replace HXp := Aside0.mk (HXp.out.step hb2); replace HKA := Aside0.mk (HKA.out.step hb2); have HKB : Aside0 (OrdK g2 gB K1 t last turned W7) := ⟨⟨_, HOB.out, Nat.le_of_eq hg2.symm, hb2⟩⟩; clear hz2 hb2 hg2 HOB)
    | (refine wpList_store_rowTo rfl 28 _ _ rfl rfl g2 (O (.slice (some ⟨gk, 0, none⟩) 1 1)) rfl rfl 28 zs HZ2.out (HSZ.out _) (hzs.trans (HOZ.out _).symm) (HOC.out _ rfl) ?_))
  obtain ⟨W8, hW8⟩ : ∃ W8 : World, W8 = W7.setRow g2 (O (.slice (some ⟨gk, 0, none⟩) 1 1)) := ⟨_, rfl⟩
  have HXq : Aside0 (BxW w (O (.slice (some ⟨gk, 0, none⟩) 1 1)) g2 W8) := ⟨by rw [hW8]; exact HX.out.made HZ2.out HG2.out.2 HG2.out.1 _⟩
  replace HX : Aside0 (BxW w (O (.slice none 0 0)) g0 W8) := ⟨by rw [hW8]; exact HX.out.setRow HN02.out HG2.out.2 HG2.out.1⟩
  replace HKA : Aside0 (OrdK g1 gA K0 t last turned W8) := ⟨by rw [hW8]; exact HKA.out.setRow HL12.out _⟩
  replace HKB : Aside0 (OrdK g2 gB K1 t last turned W8) := ⟨by rw [hW8]; exact HKB.out.setRow (Nat.le_refl _) _⟩
  rw [← hW8]
  clear hW8 HZ2 HXp
  have y0 := (blk_cell HXq.out.box 0).trans (HO0.out _)
  have f0 := blk_frozen HXq.out.box 0
  have m0 := (blk_cell HX.out.box 1).trans (HO1.out _)
  have hlt1 := blk_lt HXq.out.box
  go_upto_region 8 with (fail)
  obtain ⟨gq, hgq⟩ : ∃ gq : Nat, W8.heap.size = gq := ⟨_, rfl⟩
  rw [hgq]
  obtain ⟨W9, hW9⟩ : ∃ W9 : World, W9 = (W8.setCell ⟨g2, 0, none⟩ (.slice (some ⟨gq, 0, none⟩) 1 1)).alloc (.cells #[.int .i64 1, .int .i64 1, .int .i64 0, .int .i64 0, .int .u16 m, .bool false] 33) := ⟨_, rfl⟩
  have hst : Below (W8.setCell ⟨g2, 0, none⟩ (.slice (some ⟨gq, 0, none⟩) 1 1)).heap.size (W8.setCell ⟨g2, 0, none⟩ (.slice (some ⟨gq, 0, none⟩) 1 1)) W9 := by rw [hW9]; exact below_alloc (Below.refl _ _) _
  have HK2 : Aside0 (W9.heap[gq]? = some (.cells #[.int .i64 1, .int .i64 1, .int .i64 0, .int .i64 0, .int .u16 m, .bool false] 33 (0, 0))) := ⟨by rw [hW9, ← hgq]; exact (by simpa using heap_alloc_new (W8.setCell ⟨g2, 0, none⟩ (.slice (some ⟨W8.heap.size, 0, none⟩) 1 1)) (.cells #[.int .i64 1, .int .i64 1, .int .i64 0, .int .i64 0, .int .u16 m, .bool false] 33))⟩
  replace HXq : Aside0 (BxW w (O (.slice (some ⟨gq, 0, none⟩) 1 1)) g2 W9) := ⟨(HXq.out.setOwn (HOS.out _ _) HG2.out.1).step hst⟩
  replace HKA : Aside0 (OrdK g1 gA K0 t last turned W9) := ⟨(HKA.out.setCell HL12.out 0 _).step hst⟩
  replace HKB : Aside0 (OrdK g2 gB K1 t last turned W9) := ⟨(HKB.out.setCell (Nat.le_refl _) 0 _).step hst⟩
  rw [← hW9]
  clear hW9 hst hgq y0 f0 m0 hlt1 HX
  go_upto_region 13 with (first
    | (refine wpList_load_row rfl 28 _ rfl g2 rfl 28 (O (.slice (some ⟨gq, 0, none⟩) 1 1)) (0, 0) _ HXq.out.box HU.out rfl (HSZ.out _) ?_)
    | (go_at_call 19; refine Calls.mono (M2.out gq _ HK2.out) ?_; rintro e w10 ⟨gC, rfl, ho, hb⟩; have HOC2 := Aside0.mk ho; replace HXq := Aside0.mk (HXq.out.step hb); replace HKA := Aside0.mk (HKA.out.step hb); replace HKB := Aside0.mk (HKB.out.step hb); clear hb ho M2 HK2))
  go_upto_region 14 with (first | (go_at_call 23; refine Calls.mono (C0.out gA _ HKA.out.ord HXq.out.tab) ?_; rintro e w11 ⟨rfl, hb⟩; replace HXq := Aside0.mk (HXq.out.step hb); replace HKB := Aside0.mk (HKB.out.step hb); replace HOC2 := Aside0.mk (HOC2.out.below hb); clear hb C0 HKA))
  go_upto_region 15 with (first | (go_at_call 23; refine Calls.mono (C1.out gB _ HKB.out.ord HXq.out.tab) ?_; rintro e w12 ⟨rfl, hb⟩; replace HXq := Aside0.mk (HXq.out.step hb); replace HOC2 := Aside0.mk (HOC2.out.below hb); clear hb C1 HKB))
  go_upto_region 16 with (first | (go_at_call 23; refine Calls.mono (C2.out gC _ HOC2.out HXq.out.tab) ?_; rintro e w13 ⟨rfl, hb⟩; replace HXq := Aside0.mk (HXq.out.step hb); clear hb C2 HOC2))
  -- r
  go_upto_region 17 with (first
    | (refine Kd.event_run rfl (HBu.out _ _ _ rfl) ?_)
    | (refine box_event rfl (N := 18) rfl (cs := zs) (t := 28) (HAZ.out _ _ _ rfl) ?_; intro g3 hg3 W14 hz3 hb3; have HZ3 := Aside0.mk hz3; have HG3 : Aside0 (2 < g3 ∧ w.heap.size ≤ g3) := ⟨by have h1 := HXq.out.bel.size; have h2 := tab_lt HXq.out.tab; omega⟩; replace HXq := Aside0.mk (HXq.out.step hb3); clear hz3 hb3 hg3)
    | (refine wpList_store_rowTo rfl 28 _ _ rfl rfl g3 D rfl rfl 28 zs HZ3.out HDS.out (hzs.trans HDZ.out.symm) HDC.out ?_))
  obtain ⟨W15, hW15⟩ : ∃ W15 : World, W15 = W14.setRow g3 D := ⟨_, rfl⟩
  have HXr : Aside0 (BxW w D g3 W15) := ⟨by rw [hW15]; exact HXq.out.made HZ3.out HG3.out.2 HG3.out.1 _⟩
  rw [← hW15]
  clear hW15 HZ3 HXq
  go_upto_region 20 with (first
    | (refine wpList_load_row rfl 28 _ rfl g3 rfl 28 D (0, 0) _ HXr.out.box HU.out rfl HDS.out ?_)
    | (go_at_call 19; refine Calls.mono (HP.out _) ?_; rintro e w16 ⟨gD, rfl, ho, hb⟩; have HOD := Aside0.mk ho; replace HXr := Aside0.mk (HXr.out.step hb); clear hb ho HP))
  go_upto_region 21 with (first | (go_at_call 23; refine Calls.mono (CP.out gD _ HOD.out HXr.out.tab) ?_; rintro e w17 ⟨rfl, hb⟩; replace HXr := Aside0.mk (HXr.out.step hb); replace HOD := Aside0.mk (HOD.out.below hb); clear hb CP))
  go_upto_region 22 with (first | (go_at_call 20; refine Calls.mono (KP.out gD _ HOD.out HXr.out.tab) ?_; rintro e w18 ⟨rfl, hb⟩; replace HXr := Aside0.mk (HXr.out.step hb); clear hb KP HOD))
  have hL1 := HL1.out
  have hL2 := HL2.out
  have hR3 := HR3.out
  clear HL1 HL2 HR3
  rcases hR3 with rfl | rfl | rfl
  · have e1 : Op.bytesLess a.toList b.toList = true := hL1
    have e2 : (a.toList == b.toList) = false := hL2
    clear hL1 hL2
    go_wp2
    go_ret
    exact ⟨by first | rfl | simp, HXr.out.bel⟩
  · have e1 : Op.bytesLess a.toList b.toList = false := hL1
    have e2 : (a.toList == b.toList) = true := hL2
    clear hL1 hL2
    go_wp2
    go_ret
    exact ⟨by first | rfl | simp, HXr.out.bel⟩
  · have e1 : Op.bytesLess a.toList b.toList = false := hL1
    have e2 : (a.toList == b.toList) = false := hL2
    clear hL1 hL2
    go_wp2
    go_ret
    exact ⟨by first | rfl | simp, HXr.out.bel⟩
set_option maxHeartbeats 8000000 in
set_option maxRecDepth 100000 in
theorem whole_bad (m t : Int) (st un : Bool) (r : Rest) (h17 : r.r17.oneCell' = true) (v0 : Value) (a b : ByteArray) (w : World) (hG : GTab w) (mn : Nat) (hm : m = (mn : Int)) (hm2 : mn < 65536) (hq : chkB [] m t = false) :
    Calls Tryd.prog 7 #[.agg (optVal v0 m t st un r), .string a, .string b] w fun e w' => e = .returned (.bool true) ∧ Below w.heap.size w w' := by
  have HU := Aside0.mk Tryd.underlying28
  obtain ⟨zs, hzs, haz⟩ := alloc_opts1
  have HAZ := Aside0.mk haz
  clear haz
  obtain ⟨O, hO⟩ : ∃ O : Value → Array Value, ∀ v, O v = optVal v m t st un r := ⟨fun v => optVal v m t st un r, fun _ => rfl⟩
  have HO0 : Aside0 (∀ v, (O v)[0]? = some v) := ⟨fun v => by rw [hO]; rfl⟩
  have HO1 : Aside0 (∀ v, (O v)[1]? = some (.int .u16 m)) := ⟨fun v => by rw [hO]; rfl⟩
  have HOS : Aside0 (∀ v u, (O v).setIfInBounds 0 u = O u) := ⟨fun v u => by rw [hO, hO]; rfl⟩
  have HOZ : Aside0 (∀ v, (O v).size = 18) := ⟨fun v => by rw [hO]; rfl⟩
  have HSZ : Aside0 (∀ v, (Tryd.prog.info? 28).map (·.size) = some (O v).size) := ⟨fun v => by rw [HOZ.out]; kernel_rfl⟩
  have HOC : Aside0 (∀ v : Value, v.oneCell' = true → (O v).all (·.oneCell') = true) := ⟨fun v hv => by rw [hO]; simp [optVal, Value.oneCell']; exact ⟨hv, h17⟩⟩
  have HMay : Aside0 (∀ (A : Option Addr) (c : Nat) (l : List Ky) (W : World), Kd.C k33 W A l.length l → l.length ≤ c → l.length ≤ 1 → (∀ k ∈ l, ∃ n : Nat, k.f4 = (n : Int) ∧ n < 65536) → chkB l m t = false → Calls Tryd.prog 19 #[.agg (O (.slice A l.length c))] W fun e w' => e = .returned (.tuple #[.pointer none, .bool true]) ∧ Below W.heap.size W w') := ⟨fun A c l W hC hc hl hk hql => by
    rw [hO]
    refine (may_calls A c l m t st un r W hC hc (by omega) mn hm hm2 hk).mono (fun e w' h => ?_)
    rcases h with ⟨_, he, hb⟩ | ⟨hgood, _⟩
    · exact ⟨he, hb⟩
    · rw [hql] at hgood; exact absurd hgood (by decide)⟩
  have M0 : Aside0 (∀ W : World, Calls Tryd.prog 19 #[.agg (O (.slice none 0 0))] W fun e w' => e = .returned (.tuple #[.pointer none, .bool true]) ∧ Below W.heap.size W w') := ⟨fun W => HMay.out none 0 [] W (Kd.C_nil _ _) (by decide) (by decide) (fun k hk => by cases hk) hq⟩
  have M1 : Aside0 (∀ (gk : Nat) (W : World), W.heap[gk]? = some (.cells #[.int .i64 1, .int .i64 1, .int .i64 0, .int .i64 0, .int .u16 0, .bool false] 33 (0, 0)) → Calls Tryd.prog 19 #[.agg (O (.slice (some ⟨gk, 0, none⟩) 1 1))] W fun e w' => e = .returned (.tuple #[.pointer none, .bool true]) ∧ Below W.heap.size W w') := ⟨fun gk W hk => HMay.out (some ⟨gk, 0, none⟩) 1 [kW 0] W (key1_C (kW 0) hk) (Nat.le_refl _) (Nat.le_refl _) (fun k hk => by simp at hk; rw [hk]; exact ⟨0, rfl, by decide⟩) ((chk_kW m t mn hm 0 (.inl rfl)).trans hq)⟩
  have M2 : Aside0 (∀ (gk : Nat) (W : World), W.heap[gk]? = some (.cells #[.int .i64 1, .int .i64 1, .int .i64 0, .int .i64 0, .int .u16 m, .bool false] 33 (0, 0)) → Calls Tryd.prog 19 #[.agg (O (.slice (some ⟨gk, 0, none⟩) 1 1))] W fun e w' => e = .returned (.tuple #[.pointer none, .bool true]) ∧ Below W.heap.size W w') := ⟨fun gk W hk => HMay.out (some ⟨gk, 0, none⟩) 1 [kW m] W (key1_C (kW m) hk) (Nat.le_refl _) (Nat.le_refl _) (fun k hk => by simp at hk; rw [hk]; exact ⟨mn, hm, hm2⟩) ((chk_kW m t mn hm m (.inr rfl)).trans hq)⟩
  rw [← hO]
  have HGT := Aside0.mk hG
  clear hO h17 HMay hq hm hm2 hG
  go_enter Tryd.func7, Tryd.ntmps7
  go_upto_region 1 with (first
    | (refine box_event rfl (N := 3) rfl (cs := O v0) (t := 28) (box_opts _ _ _ rfl _ rfl _) ?_; intro g0 hg0 W0 hz0 hb0; have HX : Aside0 (BxW w (O v0) g0 W0) := ⟨⟨hz0, by rw [hg0]; exact Nat.le_refl _, HGT.out.stay hb0, hb0⟩⟩; have HG0 : Aside0 (2 < g0) := ⟨by rw [hg0]; exact tab_lt HGT.out⟩; clear hz0 hb0 hg0))
  have y0 := (blk_cell HX.out.box 0).trans (HO0.out _)
  have f0 := blk_frozen HX.out.box 0
  go_upto_region 2 with (fail)
  obtain ⟨W1, hW1⟩ : ∃ W1 : World, W1 = W0.setCell ⟨g0, 0, none⟩ (.slice none 0 0) := ⟨_, rfl⟩
  have HX1 : Aside0 (BxW w (O (.slice none 0 0)) g0 W1) := ⟨by rw [hW1]; exact HX.out.setOwn (HOS.out _ _) HG0.out⟩
  rw [← hW1]
  clear hW1 HX y0 f0
  have HX := HX1
  clear HX1
  go_upto_region 3 with (first
    | (refine wpList_load_row rfl 28 _ rfl g0 rfl 28 (O (.slice none 0 0)) (0, 0) _ HX.out.box HU.out rfl (HSZ.out _) ?_)
    | (go_at_call 19; refine Calls.mono (M0.out _) ?_; rintro e w2 ⟨rfl, hb⟩; replace HX := Aside0.mk (HX.out.step hb); clear hb M0))
  go_upto_region 4 with (first
    | (refine wpList_load_row rfl 28 _ rfl g0 rfl 28 (O (.slice none 0 0)) (0, 0) _ HX.out.box HU.out rfl (HSZ.out _) ?_)
    | (refine box_event rfl (N := 9) rfl (cs := zs) (t := 28) (HAZ.out _ _ _ rfl) ?_; intro g1 hg1 W3 hz1 hb1; have HZ1 := Aside0.mk hz1; have HN01 : Aside0 (g0 ≠ g1) := ⟨by have := blk_lt HX.out.box; omega⟩; have HG1 : Aside0 (2 < g1 ∧ w.heap.size ≤ g1) := ⟨by have h1 := HX.out.bel.size; have h2 := tab_lt HX.out.tab; omega⟩; replace HX := Aside0.mk (HX.out.step hb1); clear hz1 hb1 hg1)
    | (refine wpList_store_rowTo rfl 28 _ _ rfl rfl g1 (O (.slice none 0 0)) rfl rfl 28 zs HZ1.out (HSZ.out _) (hzs.trans (HOZ.out _).symm) (HOC.out _ rfl) ?_))
  obtain ⟨W4, hW4⟩ : ∃ W4 : World, W4 = W3.setRow g1 (O (.slice none 0 0)) := ⟨_, rfl⟩
  have HXp : Aside0 (BxW w (O (.slice none 0 0)) g1 W4) := ⟨by rw [hW4]; exact HX.out.made HZ1.out HG1.out.2 HG1.out.1 _⟩
  replace HX : Aside0 (BxW w (O (.slice none 0 0)) g0 W4) := ⟨by rw [hW4]; exact HX.out.setRow HN01.out HG1.out.2 HG1.out.1⟩
  rw [← hW4]
  clear hW4 HZ1
  have y0 := (blk_cell HXp.out.box 0).trans (HO0.out _)
  have f0 := blk_frozen HXp.out.box 0
  have hlt1 := blk_lt HXp.out.box
  go_upto_region 5 with (fail)
  obtain ⟨gk, hgk⟩ : ∃ gk : Nat, W4.heap.size = gk := ⟨_, rfl⟩
  rw [hgk]
  obtain ⟨W5, hW5⟩ : ∃ W5 : World, W5 = (W4.setCell ⟨g1, 0, none⟩ (.slice (some ⟨gk, 0, none⟩) 1 1)).alloc (.cells #[.int .i64 1, .int .i64 1, .int .i64 0, .int .i64 0, .int .u16 0, .bool false] 33) := ⟨_, rfl⟩
  have hst : Below (W4.setCell ⟨g1, 0, none⟩ (.slice (some ⟨gk, 0, none⟩) 1 1)).heap.size (W4.setCell ⟨g1, 0, none⟩ (.slice (some ⟨gk, 0, none⟩) 1 1)) W5 := by rw [hW5]; exact below_alloc (Below.refl _ _) _
  have HK1 : Aside0 (W5.heap[gk]? = some (.cells #[.int .i64 1, .int .i64 1, .int .i64 0, .int .i64 0, .int .u16 0, .bool false] 33 (0, 0))) := ⟨by rw [hW5, ← hgk]; exact (by simpa using heap_alloc_new (W4.setCell ⟨g1, 0, none⟩ (.slice (some ⟨W4.heap.size, 0, none⟩) 1 1)) (.cells #[.int .i64 1, .int .i64 1, .int .i64 0, .int .i64 0, .int .u16 0, .bool false] 33))⟩
  replace HXp : Aside0 (BxW w (O (.slice (some ⟨gk, 0, none⟩) 1 1)) g1 W5) := ⟨(HXp.out.setOwn (HOS.out _ _) HG1.out.1).step hst⟩
  replace HX : Aside0 (BxW w (O (.slice none 0 0)) g0 W5) := ⟨(HX.out.setOther HN01.out HG1.out.2 HG1.out.1 0 _).step hst⟩
  rw [← hW5]
  clear hW5 hst hgk y0 f0 hlt1
  go_upto_region 6 with (first
    | (refine wpList_load_row rfl 28 _ rfl g1 rfl 28 (O (.slice (some ⟨gk, 0, none⟩) 1 1)) (0, 0) _ HXp.out.box HU.out rfl (HSZ.out _) ?_)
    | (go_at_call 19; refine Calls.mono (M1.out gk _ HK1.out) ?_; rintro e w6 ⟨rfl, hb⟩; replace HX := Aside0.mk (HX.out.step hb); replace HXp := Aside0.mk (HXp.out.step hb); clear hb M1 HK1))
  go_upto_region 7 with (first
    | (refine wpList_load_row rfl 28 _ rfl g1 rfl 28 (O (.slice (some ⟨gk, 0, none⟩) 1 1)) (0, 0) _ HXp.out.box HU.out rfl (HSZ.out _) ?_)
    | (refine box_event rfl (N := 12) rfl (cs := zs) (t := 28) (HAZ.out _ _ _ rfl) ?_; intro g2 hg2 W7 hz2 hb2; have HZ2 := Aside0.mk hz2; have HN02 : Aside0 (g0 ≠ g2) := ⟨by have := blk_lt HX.out.box; omega⟩; have HG2 : Aside0 (2 < g2 ∧ w.heap.size ≤ g2) := ⟨by have h1 := HX.out.bel.size; have h2 := tab_lt HX.out.tab; omega⟩; replace HX := Aside0.mk (HX.out.step hb2); replace HXp := Aside0.mk (HXp.out.step hb2); clear hz2 hb2 hg2)
    | (refine wpList_store_rowTo rfl 28 _ _ rfl rfl g2 (O (.slice (some ⟨gk, 0, none⟩) 1 1)) rfl rfl 28 zs HZ2.out (HSZ.out _) (hzs.trans (HOZ.out _).symm) (HOC.out _ rfl) ?_))
  obtain ⟨W8, hW8⟩ : ∃ W8 : World, W8 = W7.setRow g2 (O (.slice (some ⟨gk, 0, none⟩) 1 1)) := ⟨_, rfl⟩
  have HXq : Aside0 (BxW w (O (.slice (some ⟨gk, 0, none⟩) 1 1)) g2 W8) := ⟨by rw [hW8]; exact HX.out.made HZ2.out HG2.out.2 HG2.out.1 _⟩
  replace HX : Aside0 (BxW w (O (.slice none 0 0)) g0 W8) := ⟨by rw [hW8]; exact HX.out.setRow HN02.out HG2.out.2 HG2.out.1⟩
  rw [← hW8]
  clear hW8 HZ2 HXp
  have y0 := (blk_cell HXq.out.box 0).trans (HO0.out _)
  have f0 := blk_frozen HXq.out.box 0
  have m0 := (blk_cell HX.out.box 1).trans (HO1.out _)
  have hlt1 := blk_lt HXq.out.box
  go_upto_region 8 with (fail)
  obtain ⟨gq, hgq⟩ : ∃ gq : Nat, W8.heap.size = gq := ⟨_, rfl⟩
  rw [hgq]
  obtain ⟨W9, hW9⟩ : ∃ W9 : World, W9 = (W8.setCell ⟨g2, 0, none⟩ (.slice (some ⟨gq, 0, none⟩) 1 1)).alloc (.cells #[.int .i64 1, .int .i64 1, .int .i64 0, .int .i64 0, .int .u16 m, .bool false] 33) := ⟨_, rfl⟩
  have hst : Below (W8.setCell ⟨g2, 0, none⟩ (.slice (some ⟨gq, 0, none⟩) 1 1)).heap.size (W8.setCell ⟨g2, 0, none⟩ (.slice (some ⟨gq, 0, none⟩) 1 1)) W9 := by rw [hW9]; exact below_alloc (Below.refl _ _) _
  have HK2 : Aside0 (W9.heap[gq]? = some (.cells #[.int .i64 1, .int .i64 1, .int .i64 0, .int .i64 0, .int .u16 m, .bool false] 33 (0, 0))) := ⟨by rw [hW9, ← hgq]; exact (by simpa using heap_alloc_new (W8.setCell ⟨g2, 0, none⟩ (.slice (some ⟨W8.heap.size, 0, none⟩) 1 1)) (.cells #[.int .i64 1, .int .i64 1, .int .i64 0, .int .i64 0, .int .u16 m, .bool false] 33))⟩
  replace HXq : Aside0 (BxW w (O (.slice (some ⟨gq, 0, none⟩) 1 1)) g2 W9) := ⟨(HXq.out.setOwn (HOS.out _ _) HG2.out.1).step hst⟩
  rw [← hW9]
  clear hW9 hst hgq y0 f0 m0 hlt1 HX
  go_wp2_with (first
    | (refine wpList_load_row rfl 28 _ rfl g2 rfl 28 (O (.slice (some ⟨gq, 0, none⟩) 1 1)) (0, 0) _ HXq.out.box HU.out rfl (HSZ.out _) ?_)
    | (go_at_call 19; refine Calls.mono (M2.out gq _ HK2.out) ?_; rintro e w10 ⟨rfl, hb⟩; replace HXq := Aside0.mk (HXq.out.step hb); clear hb M2 HK2))
  go_ret
  exact ⟨by first | rfl | simp, HXq.out.bel⟩
theorem whole_walk (m t : Int) (st un : Bool) (r : Rest) (h17 : r.r17.oneCell' = true) (v0 : Value) (hv0 : v0.oneCell' = true) (a b : ByteArray) (ha : a.size ≤ 1048576) (hb : b.size ≤ 1048576) (w : World) (hG : GTab w) (mn : Nat) (hm : m = (mn : Int)) (hm2 : mn < 65536) :
    Calls Tryd.prog 7 #[.agg (optVal v0 m t st un r), .string a, .string b] w fun e w' => e = .returned (.bool true) ∧ Below w.heap.size w w' := by
  cases hq : chkB [] m t
  · exact whole_bad m t st un r h17 v0 a b w hG mn hm hm2 hq
  · exact whole_good m t st un r h17 v0 hv0 a b ha hb w hG mn hm hm2 hq
end Go.Proofs.YtnnoegjgaelafaaDoor.Pr
