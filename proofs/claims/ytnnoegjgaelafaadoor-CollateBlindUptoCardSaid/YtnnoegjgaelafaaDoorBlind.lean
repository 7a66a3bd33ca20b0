/- The law CollateBlind: the walk. -/
import Derived.Test.YtnnoegjgaelafaaDoorBlind0
import Derived.Test.YtnnoegjgaelafaaDoorMay
import Derived.Great.BuildSlice
namespace Go.Proofs.YtnnoegjgaelafaaDoor.Pr
open Go.RowKit Go.Great Go.Proofs.YtnnoegjgaelafaaDoorW.PrintWords Go.Proofs.YtnnoegjgaelafaaDoorW.PrintLast
set_option linter.unusedVariables false
set_option linter.unusedSimpArgs false

theorem less_iff : ∀ a b : List UInt8, Op.bytesLess a b = decide (Lib.compareBytes a b < 0)
  | [], [] => by simp [Op.bytesLess, Lib.compareBytes]
  | _ :: _, [] => by simp [Op.bytesLess, Lib.compareBytes]
  | [], _ :: _ => by simp [Op.bytesLess, Lib.compareBytes]
  | a :: xs, b :: ys => by
    unfold Op.bytesLess Lib.compareBytes
    by_cases h : a < b
    · simp [h]
    · by_cases h2 : b < a
      · have hne : ¬ a = b := fun e => by subst e; exact UInt8.lt_irrefl _ h2
        simp [h, h2, hne]
      · have hab : a = b := UInt8.le_antisymm (UInt8.not_lt.1 h2) (UInt8.not_lt.1 h)
        subst hab
        simp [h, less_iff xs ys]
theorem str_less (a b : ByteArray) : Op.bytesLess a.toList b.toList = decide (cmpS a b < 0) := by rw [Lib.toList_data, Lib.toList_data, less_iff]; rfl
theorem str_eq (a b : ByteArray) : (a.toList == b.toList) = (cmpS a b == 0) := by
  rw [Lib.toList_data, Lib.toList_data]
  have h := cmpB_zero a.data.toList b.data.toList
  unfold cmpS
  by_cases e : a.data.toList = b.data.toList
  · rw [beq_iff_eq.mpr e, beq_iff_eq.mpr (h.2 e)]
  · rw [beq_eq_false_iff_ne.mpr e, beq_eq_false_iff_ne.mpr (fun x => e (h.1 x))]
def zRest0 : Rest := ⟨false, false, 0, ⟨#[]⟩, false, 0, 0, 0, 0, ⟨#[]⟩, false, ⟨#[]⟩, .slice none 0 0⟩
theorem eff_fit {l0 : List Ky} {m : Int} {b : Bool} (h : ∀ k ∈ l0, Fit k) : ∀ k ∈ effKeys m b l0, Fit k := by
  intro k hk
  unfold effKeys at hk
  split at hk
  · simp only [List.mem_singleton] at hk
    subst hk
    exact ⟨by simp, by simp, by simp, by simp, by simp, by simp, by simp, by simp⟩
  · obtain ⟨x, hx, rfl⟩ := List.mem_map.1 hk
    have hf := h x hx
    unfold effKey
    split
    · exact ⟨hf.a, hf.b, hf.c, hf.d, hf.e, hf.f, hf.g, hf.h⟩
    · exact hf
theorem text_whole (s : ByteArray) (m : Int) (b : Bool) (hm : modB m = false) : textI s (-1) ⟨1, 1, 0, 0, m, b⟩ = s := by
  have hb : begN s (-1) 1 false = 0 := rfl
  have e : spanI s (-1) ⟨1, 1, 0, 0, m, b⟩ = (0, (s.size : Int)) := by
    unfold spanI fromI toI
    simp only [hm, hb]
    simp
    omega
  unfold textI
  rw [e]
  apply ByteArray.ext
  apply Array.toList_inj.1
  rw [ByteArray.data_extract, Array.toList_extract, List.extract_eq_take_drop]
  simp
  exact List.take_of_length_le (by rw [Array.length_toList]; exact Nat.le_refl _)
/-- May of no key and of these modifiers. -/
theorem may_blind (m : Nat) (hm : m < 65536) (hc : chkB [] (m : Int) (-1) = true) (w : World) : Calls Tryd.prog 19 #[.agg (optVal (.slice none 0 0) (m : Int) (-1) false false zRest0)] w fun e w' => ∃ g, e = .returned (.tuple #[.pointer (some ⟨g, 0, none⟩), .bool true]) ∧ OrdW w' g (effKeys (m : Int) (modB (m : Int)) []) (-1) true (bits .and .u16 (m : Int) 512 != 0) ∧ Below w.heap.size w w' := by
  refine (may_calls none 0 [] (m : Int) (-1) false false zRest0 w ⟨rfl, by decide, fun h => absurd h (by decide)⟩ (Nat.le_refl _) (by decide) m rfl hm (fun k hk => by cases hk)).mono (fun e w' h => ?_)
  rcases h with ⟨hq, _⟩ | ⟨_, g, he, ho, _, hb⟩
  · rw [hc] at hq; cases hq
  · exact ⟨g, he, ho, hb⟩
theorem eff_len1 (m : Int) (b : Bool) : (effKeys m b []).length = 1 := rfl
theorem alloc_opts0 : ∃ zs : Array Value, zs.size = 18 ∧ ∀ (a : Act) (o : Oper) (W : World), o.op = .alloc 28 → (execOp a.eval o).run Tryd.prog W = .ok (.value (.pointer (some ⟨W.heap.size, 0, none⟩))) (W.alloc (.cells zs 28 (0, 0))) := by
  refine ⟨#[.slice none 0 0, .int .u16 0, .int .i64 0, .bool false, .bool false, .bool false, .bool false, .int .u8 0, .string ⟨#[]⟩, .bool false, .int .i64 0, .int .i64 0, .int .i64 0, .int .i64 0, .string ⟨#[]⟩, .bool false, .string ⟨#[]⟩, .slice none 0 0], rfl, fun a o W ho => ?_⟩
  unfold execOp
  simp only [ho]
  go_simp
  try rfl
theorem build_opts0 (a : Act) (o : Oper) (W : World) (ho : o.op = .build 28 #[(2, .const (.int .i64 (-1)))]) : (execOp a.eval o).run Tryd.prog W = .ok (.value (.agg (optVal (.slice none 0 0) 0 (-1) false false zRest0))) W := by
  have hu := Tryd.underlying28
  unfold execOp
  simp only [ho]
  go_simp
  try rfl
theorem blind_keys (m : Nat) (d i f : Bool) (hd : (bits .and .u16 (m : Int) 2 != 0) = d) (hi : (!(bits .and .u16 (m : Int) 2 != 0) && (bits .and .u16 (m : Int) 8 != 0)) = i) (hf : (bits .and .u16 (m : Int) 4 != 0) = f) (hk : bits .and .u16 (m : Int) 496 = 0) (hb : modB (m : Int) = false) (hr : (bits .and .u16 (m : Int) 512 != 0) = false)
    (a b : ByteArray) (ha : a.size ≤ 1048576) (hb' : b.size ≤ 1048576) (g : Nat) (W : World) (ho : OrdW W g (effKeys (m : Int) (modB (m : Int)) []) (-1) true (bits .and .u16 (m : Int) 512 != 0)) :
    Calls Tryd.prog 20 #[.pointer (some ⟨g, 0, none⟩), .string a, .string b] W fun e w' => e = .returned (.int .i64 (cmpS (filtS d i f a) (filtS d i f b))) ∧ Below W.heap.size W w' := by
  have hfit : ∀ k ∈ effKeys (m : Int) (modB (m : Int)) [], Fit k := eff_fit (fun k hk => by cases hk)
  have h := keys_calls cmp0 a b ha hb' (effKeys (m : Int) (modB (m : Int)) []) hfit (fun k hk2 => by
    have e : k = ⟨1, 1, 0, 0, (m : Int), modB (m : Int)⟩ := by simpa [effKeys] using hk2
    subst e; exact hk) (-1) (by decide) (by decide) g true (bits .and .u16 (m : Int) 512 != 0) W ho (by rw [eff_len1]; decide) trivial
  have e : keysL cmp0 a b (-1) (effKeys (m : Int) (modB (m : Int)) []) = cmpS (filtS d i f a) (filtS d i f b) := by
    have e1 : effKeys (m : Int) (modB (m : Int)) [] = [⟨1, 1, 0, 0, (m : Int), modB (m : Int)⟩] := rfl
    have hp : ∀ s : ByteArray, partK s (-1) ⟨1, 1, 0, 0, (m : Int), modB (m : Int)⟩ = filtS d i f s := fun s => by
      unfold partK kindI
      simp only [hk]
      rw [if_pos (by decide), text_whole s (m : Int) _ hb]
      unfold filtK
      rw [hi, hd, hf]
    rw [e1, keysL_cons, hp, hp]
    simp only [hr, Bool.false_eq_true, if_false]
    show (if cmpS (filtS d i f a) (filtS d i f b) = 0 then _ else cmpS (filtS d i f a) (filtS d i f b)) = _
    split
    · rename_i h0; rw [h0]; rfl
    · rfl
  rwa [e] at h
set_option maxHeartbeats 1600000 in
set_option maxRecDepth 100000 in
theorem blind_000 (a b : ByteArray) (ha : a.size ≤ 1048576) (hb : b.size ≤ 1048576) (q : Int) (hq1 : (q == 1) = false) (hq2 : (q == 2) = false) (w : World) :
    Calls Tryd.prog 4 #[.string a, .string b, .bool false, .int .i64 q] w fun e w' => e = .returned (.bool true) ∧ Below w.heap.size w w' := by
  have HU := Aside0.mk Tryd.underlying28
  obtain ⟨zs, hzs, haz⟩ := alloc_opts0
  have HAZ := Aside0.mk haz
  clear haz
  obtain ⟨O, hO⟩ : ∃ O : Int → Array Value, ∀ m, O m = optVal (.slice none 0 0) m (-1) false false zRest0 := ⟨fun m => optVal (.slice none 0 0) m (-1) false false zRest0, fun _ => rfl⟩
  have HM : Aside0 (∀ W, Calls Tryd.prog 19 #[.agg (O 0)] W fun e w' => ∃ g, e = .returned (.tuple #[.pointer (some ⟨g, 0, none⟩), .bool true]) ∧ OrdW w' g (effKeys ((0 : Nat) : Int) (modB ((0 : Nat) : Int)) []) (-1) true (bits .and .u16 ((0 : Nat) : Int) 512 != 0) ∧ Below W.heap.size W w') := ⟨fun W => by rw [hO]; exact may_blind 0 (by decide) (by decide) W⟩
  have HBu : Aside0 (∀ (a : Act) (o : Oper) (W : World), o.op = .build 28 #[(2, .const (.int .i64 (-1)))] → (execOp a.eval o).run Tryd.prog W = .ok (.value (.agg (O 0))) W) := ⟨fun a o W ho => by rw [hO]; exact build_opts0 a o W ho⟩
  have HO1 : Aside0 (∀ m, (O m)[1]? = some (.int .u16 m)) := ⟨fun m => by rw [hO]; rfl⟩
  have HOS : Aside0 (∀ m n, (O m).setIfInBounds 1 (.int .u16 n) = O n) := ⟨fun m n => by rw [hO, hO]; rfl⟩
  have HOZ : Aside0 (∀ m, (O m).size = 18) := ⟨fun m => by rw [hO]; rfl⟩
  have HSZ : Aside0 (∀ m, (Tryd.prog.info? 28).map (·.size) = some (O m).size) := ⟨fun m => by rw [hO]; exact opt_size none 0 0 m (-1) false false zRest0⟩
  have HOC : Aside0 ((O 0).all (·.oneCell') = true) := ⟨by rw [hO]; simp [optVal, zRest0, Value.oneCell']⟩
  clear hO
  have HDa := Aside0.mk (fun W => dropped_calls a ha false W)
  have HDb := Aside0.mk (fun W => dropped_calls b hb false W)
  have HUp := Aside0.mk upper_calls
  have HK := Aside0.mk (fun x y hx hy g W ho => blind_keys 0 false false false (by decide) (by decide) (by decide) (by decide) (by decide) (by decide) x y hx hy g W ho)
  have hfa : (filtS false false false a).size ≤ 1048576 := Nat.le_trans (filtL_len _ _ _ _) ha
  have hfb : (filtS false false false b).size ≤ 1048576 := Nat.le_trans (filtL_len _ _ _ _) hb
  have hga : (filtS false false false a).size ≤ 1048576 := Nat.le_trans (filtL_len _ _ _ _) ha
  have hgb : (filtS false false false b).size ≤ 1048576 := Nat.le_trans (filtL_len _ _ _ _) hb
  have hra := cmpB_rng (filtS false false false a).data.toList (filtS false false false b).data.toList
  go_enter Tryd.func4, Tryd.ntmps4
  have HB : Aside0 (Below w.heap.size w w) := ⟨Below.refl _ _⟩
  go_upto_region 4 with (first
    | (refine Kd.event_run rfl (HBu.out _ _ _ rfl) ?_)
    | (refine box_event rfl (N := 9) rfl (cs := zs) (t := 28) (HAZ.out _ _ _ rfl) ?_; intro g1 hg1 W1 hz1 hb1; have HZ := Aside0.mk hz1; have HG : Aside0 (w.heap.size ≤ g1) := ⟨by rw [hg1]; exact HB.out.size⟩; replace HB := Aside0.mk (bstep HB.out hb1); clear hz1 hb1 hg1)
    | (refine wpList_store_rowTo rfl 28 _ _ rfl rfl g1 (O 0) rfl rfl 28 zs HZ.out (HSZ.out _) (hzs.trans (HOZ.out _).symm) HOC.out ?_; obtain ⟨W2, hW2⟩ : ∃ W2 : World, W2 = W1.setRow g1 (O 0) := ⟨_, rfl⟩; replace HZ : Aside0 (W2.heap[g1]? = some (.cells (O 0) 28 (0, 0))) := ⟨by rw [hW2]; exact setRow_heap _ _ _ _ _ _ HZ.out⟩; replace HB : Aside0 (Below w.heap.size w W2) := ⟨by rw [hW2]; exact below_setRow HB.out g1 HG.out _⟩; rw [← hW2]; clear hW2))
  go_upto_region 11 with (fail)
  obtain ⟨X, hX⟩ : ∃ X : ByteArray, X = filtS false false false a := ⟨_, rfl⟩
  obtain ⟨Y, hY⟩ : ∃ Y : ByteArray, Y = filtS false false false b := ⟨_, rfl⟩
  have HK1 : Aside0 (∀ g W, OrdW W g (effKeys ((0 : Nat) : Int) (modB ((0 : Nat) : Int)) []) (-1) true (bits .and .u16 ((0 : Nat) : Int) 512 != 0) → Calls Tryd.prog 20 #[.pointer (some ⟨g, 0, none⟩), .string a, .string b] W fun e w' => e = .returned (.int .i64 (cmpS X Y)) ∧ Below W.heap.size W w') := ⟨fun g W ho => by rw [hX, hY]; exact HK.out a b ha hb g W ho⟩
  have HK2 : Aside0 (∀ g W, OrdW W g (effKeys ((0 : Nat) : Int) (modB ((0 : Nat) : Int)) []) (-1) true (bits .and .u16 ((0 : Nat) : Int) 512 != 0) → Calls Tryd.prog 20 #[.pointer (some ⟨g, 0, none⟩), .string a, .string X] W fun e w' => e = .returned (.int .i64 0) ∧ Below W.heap.size W w') := ⟨fun g W ho => by
    have h := HK.out a X ha (by rw [hX]; exact hfa) g W ho
    have e : cmpS (filtS false false false a) (filtS false false false X) = 0 := by rw [hX, filtS_twice]; exact (cmpS_zero _ _).2 rfl
    rwa [e] at h⟩
  rw [filtS_none] at hX hY
  subst hX hY
  have hE := str_eq X Y
  have hL := str_less X Y
  have hR := cmpB_rng X.data.toList Y.data.toList
  change -1 ≤ cmpS X Y ∧ cmpS X Y ≤ 1 at hR
  generalize cmpS X Y = rn at *
  have hR3 : rn = -1 ∨ rn = 0 ∨ rn = 1 := by omega
  clear HK hra hfa hfb hga hgb hR 
  have HE := Aside0.mk hE
  have HL := Aside0.mk hL
  clear hE hL
  go_upto_region 20 with (first
    | (refine wpList_load_row rfl 28 _ rfl g1 rfl 28 (O 0) (0, 0) _ HZ.out HU.out rfl (HSZ.out _) ?_)
    | (go_at_call 19; refine Calls.mono (HM.out _) ?_; rintro e v7 ⟨g, rfl, ho7, hb7⟩; have HO := Aside0.mk ho7; replace HB := Aside0.mk (bstep HB.out hb7); clear hb7 ho7 HM HZ)
    | (go_at_call 20; refine Calls.mono (HK1.out _ _ HO.out) ?_; rintro e v8 ⟨rfl, hb8⟩; replace HO := Aside0.mk (HO.out.below hb8); replace HB := Aside0.mk (bstep HB.out hb8); clear hb8 HK1)
    | (go_at_call 20; refine Calls.mono (HK2.out _ _ HO.out) ?_; rintro e v9 ⟨rfl, hb9⟩; replace HO := Aside0.mk (HO.out.below hb9); replace HB := Aside0.mk (bstep HB.out hb9); clear hb9 HK2))
  rcases hR3 with rfl | rfl | rfl
  all_goals
    have hE := HE.out
    have hL := HL.out
    simp at hE hL
    go_wp2
    go_ret
    exact ⟨by first | rfl | (simp [hE, hL]; done) | (rw [hE] at hL; simp [hE, hL]; done), HB.out⟩
set_option maxHeartbeats 1600000 in
set_option maxRecDepth 100000 in
theorem blind_001 (a b : ByteArray) (ha : a.size ≤ 1048576) (hb : b.size ≤ 1048576) (q : Int) (hq1 : (q == 1) = false) (hq2 : (q == 2) = false) (w : World) :
    Calls Tryd.prog 4 #[.string a, .string b, .bool true, .int .i64 q] w fun e w' => e = .returned (.bool true) ∧ Below w.heap.size w w' := by
  have HU := Aside0.mk Tryd.underlying28
  obtain ⟨zs, hzs, haz⟩ := alloc_opts0
  have HAZ := Aside0.mk haz
  clear haz
  obtain ⟨O, hO⟩ : ∃ O : Int → Array Value, ∀ m, O m = optVal (.slice none 0 0) m (-1) false false zRest0 := ⟨fun m => optVal (.slice none 0 0) m (-1) false false zRest0, fun _ => rfl⟩
  have HM : Aside0 (∀ W, Calls Tryd.prog 19 #[.agg (O 4)] W fun e w' => ∃ g, e = .returned (.tuple #[.pointer (some ⟨g, 0, none⟩), .bool true]) ∧ OrdW w' g (effKeys ((4 : Nat) : Int) (modB ((4 : Nat) : Int)) []) (-1) true (bits .and .u16 ((4 : Nat) : Int) 512 != 0) ∧ Below W.heap.size W w') := ⟨fun W => by rw [hO]; exact may_blind 4 (by decide) (by decide) W⟩
  have HBu : Aside0 (∀ (a : Act) (o : Oper) (W : World), o.op = .build 28 #[(2, .const (.int .i64 (-1)))] → (execOp a.eval o).run Tryd.prog W = .ok (.value (.agg (O 0))) W) := ⟨fun a o W ho => by rw [hO]; exact build_opts0 a o W ho⟩
  have HO1 : Aside0 (∀ m, (O m)[1]? = some (.int .u16 m)) := ⟨fun m => by rw [hO]; rfl⟩
  have HOS : Aside0 (∀ m n, (O m).setIfInBounds 1 (.int .u16 n) = O n) := ⟨fun m n => by rw [hO, hO]; rfl⟩
  have HOZ : Aside0 (∀ m, (O m).size = 18) := ⟨fun m => by rw [hO]; rfl⟩
  have HSZ : Aside0 (∀ m, (Tryd.prog.info? 28).map (·.size) = some (O m).size) := ⟨fun m => by rw [hO]; exact opt_size none 0 0 m (-1) false false zRest0⟩
  have HOC : Aside0 ((O 0).all (·.oneCell') = true) := ⟨by rw [hO]; simp [optVal, zRest0, Value.oneCell']⟩
  clear hO
  have HDa := Aside0.mk (fun W => dropped_calls a ha false W)
  have HDb := Aside0.mk (fun W => dropped_calls b hb false W)
  have HUp := Aside0.mk upper_calls
  have HK := Aside0.mk (fun x y hx hy g W ho => blind_keys 4 false false true (by decide) (by decide) (by decide) (by decide) (by decide) (by decide) x y hx hy g W ho)
  have hfa : (filtS false false true a).size ≤ 1048576 := Nat.le_trans (filtL_len _ _ _ _) ha
  have hfb : (filtS false false true b).size ≤ 1048576 := Nat.le_trans (filtL_len _ _ _ _) hb
  have hga : (filtS false false false a).size ≤ 1048576 := Nat.le_trans (filtL_len _ _ _ _) ha
  have hgb : (filtS false false false b).size ≤ 1048576 := Nat.le_trans (filtL_len _ _ _ _) hb
  have hra := cmpB_rng (filtS false false true a).data.toList (filtS false false true b).data.toList
  go_enter Tryd.func4, Tryd.ntmps4
  have HB : Aside0 (Below w.heap.size w w) := ⟨Below.refl _ _⟩
  go_upto_region 4 with (first
    | (refine Kd.event_run rfl (HBu.out _ _ _ rfl) ?_)
    | (refine box_event rfl (N := 9) rfl (cs := zs) (t := 28) (HAZ.out _ _ _ rfl) ?_; intro g1 hg1 W1 hz1 hb1; have HZ := Aside0.mk hz1; have HG : Aside0 (w.heap.size ≤ g1) := ⟨by rw [hg1]; exact HB.out.size⟩; replace HB := Aside0.mk (bstep HB.out hb1); clear hz1 hb1 hg1)
    | (refine wpList_store_rowTo rfl 28 _ _ rfl rfl g1 (O 0) rfl rfl 28 zs HZ.out (HSZ.out _) (hzs.trans (HOZ.out _).symm) HOC.out ?_; obtain ⟨W2, hW2⟩ : ∃ W2 : World, W2 = W1.setRow g1 (O 0) := ⟨_, rfl⟩; replace HZ : Aside0 (W2.heap[g1]? = some (.cells (O 0) 28 (0, 0))) := ⟨by rw [hW2]; exact setRow_heap _ _ _ _ _ _ HZ.out⟩; replace HB : Aside0 (Below w.heap.size w W2) := ⟨by rw [hW2]; exact below_setRow HB.out g1 HG.out _⟩; rw [← hW2]; clear hW2))
  go_upto_region 11 with (fail)
  have x1 := (blk_cell HZ.out 1).trans (HO1.out _)
  have f1 := blk_frozen HZ.out 1
  have hor : bits .or .u16 0 4 = 4 := by decide
  go_upto_region 13 with (fail)
  obtain ⟨V4, hV⟩ : ∃ V : World, V = W2.setCell ⟨g1, 1, none⟩ (.int .u16 4) := ⟨_, rfl⟩
  replace HZ : Aside0 (V4.heap[g1]? = some (.cells (O 4) 28 (0, 0))) := ⟨by rw [hV]; exact blk_put HZ.out 1 _ (HOS.out _ _)⟩
  replace HB : Aside0 (Below w.heap.size w V4) := ⟨by rw [hV]; exact below_set HB.out HG.out⟩
  rw [← hV]
  clear hV x1 f1 hor
  have HUa := Aside0.mk (fun W => HUp.out a ha W)
  have HUb := Aside0.mk (fun W => HUp.out b hb W)
  go_upto_region 15 with (first
    | (go_at_call 18; refine Calls.mono (HUa.out _) ?_; rintro e v5 ⟨rfl, hb5⟩; replace HZ := Aside0.mk ((hb5.block _ (blk_lt HZ.out)).trans HZ.out); replace HB := Aside0.mk (bstep HB.out hb5); clear hb5; clear HUa)
    | (go_at_call 18; refine Calls.mono (HUb.out _) ?_; rintro e v6 ⟨rfl, hb6⟩; replace HZ := Aside0.mk ((hb6.block _ (blk_lt HZ.out)).trans HZ.out); replace HB := Aside0.mk (bstep HB.out hb6); clear hb6; clear HUb))
  obtain ⟨X, hX⟩ : ∃ X : ByteArray, X = filtS false false true a := ⟨_, rfl⟩
  obtain ⟨Y, hY⟩ : ∃ Y : ByteArray, Y = filtS false false true b := ⟨_, rfl⟩
  have HK1 : Aside0 (∀ g W, OrdW W g (effKeys ((4 : Nat) : Int) (modB ((4 : Nat) : Int)) []) (-1) true (bits .and .u16 ((4 : Nat) : Int) 512 != 0) → Calls Tryd.prog 20 #[.pointer (some ⟨g, 0, none⟩), .string a, .string b] W fun e w' => e = .returned (.int .i64 (cmpS X Y)) ∧ Below W.heap.size W w') := ⟨fun g W ho => by rw [hX, hY]; exact HK.out a b ha hb g W ho⟩
  have HK2 : Aside0 (∀ g W, OrdW W g (effKeys ((4 : Nat) : Int) (modB ((4 : Nat) : Int)) []) (-1) true (bits .and .u16 ((4 : Nat) : Int) 512 != 0) → Calls Tryd.prog 20 #[.pointer (some ⟨g, 0, none⟩), .string a, .string X] W fun e w' => e = .returned (.int .i64 0) ∧ Below W.heap.size W w') := ⟨fun g W ho => by
    have h := HK.out a X ha (by rw [hX]; exact hfa) g W ho
    have e : cmpS (filtS false false true a) (filtS false false true X) = 0 := by rw [hX, filtS_twice]; exact (cmpS_zero _ _).2 rfl
    rwa [e] at h⟩
  rw [← hX, ← hY]
  have hE := str_eq X Y
  have hL := str_less X Y
  have hR := cmpB_rng X.data.toList Y.data.toList
  change -1 ≤ cmpS X Y ∧ cmpS X Y ≤ 1 at hR
  generalize cmpS X Y = rn at *
  have hR3 : rn = -1 ∨ rn = 0 ∨ rn = 1 := by omega
  clear HK hra hfa hfb hga hgb hR hX hY
  have HE := Aside0.mk hE
  have HL := Aside0.mk hL
  clear hE hL
  go_upto_region 20 with (first
    | (refine wpList_load_row rfl 28 _ rfl g1 rfl 28 (O 4) (0, 0) _ HZ.out HU.out rfl (HSZ.out _) ?_)
    | (go_at_call 19; refine Calls.mono (HM.out _) ?_; rintro e v7 ⟨g, rfl, ho7, hb7⟩; have HO := Aside0.mk ho7; replace HB := Aside0.mk (bstep HB.out hb7); clear hb7 ho7 HM HZ)
    | (go_at_call 20; refine Calls.mono (HK1.out _ _ HO.out) ?_; rintro e v8 ⟨rfl, hb8⟩; replace HO := Aside0.mk (HO.out.below hb8); replace HB := Aside0.mk (bstep HB.out hb8); clear hb8 HK1)
    | (go_at_call 20; refine Calls.mono (HK2.out _ _ HO.out) ?_; rintro e v9 ⟨rfl, hb9⟩; replace HO := Aside0.mk (HO.out.below hb9); replace HB := Aside0.mk (bstep HB.out hb9); clear hb9 HK2))
  rcases hR3 with rfl | rfl | rfl
  all_goals
    have hE := HE.out
    have hL := HL.out
    simp at hE hL
    go_wp2
    go_ret
    exact ⟨by first | rfl | (simp [hE, hL]; done) | (rw [hE] at hL; simp [hE, hL]; done), HB.out⟩
set_option maxHeartbeats 1600000 in
set_option maxRecDepth 100000 in
theorem blind_100 (a b : ByteArray) (ha : a.size ≤ 1048576) (hb : b.size ≤ 1048576) (w : World) :
    Calls Tryd.prog 4 #[.string a, .string b, .bool false, .int .i64 1] w fun e w' => e = .returned (.bool true) ∧ Below w.heap.size w w' := by
  have HU := Aside0.mk Tryd.underlying28
  obtain ⟨zs, hzs, haz⟩ := alloc_opts0
  have HAZ := Aside0.mk haz
  clear haz
  obtain ⟨O, hO⟩ : ∃ O : Int → Array Value, ∀ m, O m = optVal (.slice none 0 0) m (-1) false false zRest0 := ⟨fun m => optVal (.slice none 0 0) m (-1) false false zRest0, fun _ => rfl⟩
  have HM : Aside0 (∀ W, Calls Tryd.prog 19 #[.agg (O 2)] W fun e w' => ∃ g, e = .returned (.tuple #[.pointer (some ⟨g, 0, none⟩), .bool true]) ∧ OrdW w' g (effKeys ((2 : Nat) : Int) (modB ((2 : Nat) : Int)) []) (-1) true (bits .and .u16 ((2 : Nat) : Int) 512 != 0) ∧ Below W.heap.size W w') := ⟨fun W => by rw [hO]; exact may_blind 2 (by decide) (by decide) W⟩
  have HBu : Aside0 (∀ (a : Act) (o : Oper) (W : World), o.op = .build 28 #[(2, .const (.int .i64 (-1)))] → (execOp a.eval o).run Tryd.prog W = .ok (.value (.agg (O 0))) W) := ⟨fun a o W ho => by rw [hO]; exact build_opts0 a o W ho⟩
  have HO1 : Aside0 (∀ m, (O m)[1]? = some (.int .u16 m)) := ⟨fun m => by rw [hO]; rfl⟩
  have HOS : Aside0 (∀ m n, (O m).setIfInBounds 1 (.int .u16 n) = O n) := ⟨fun m n => by rw [hO, hO]; rfl⟩
  have HOZ : Aside0 (∀ m, (O m).size = 18) := ⟨fun m => by rw [hO]; rfl⟩
  have HSZ : Aside0 (∀ m, (Tryd.prog.info? 28).map (·.size) = some (O m).size) := ⟨fun m => by rw [hO]; exact opt_size none 0 0 m (-1) false false zRest0⟩
  have HOC : Aside0 ((O 0).all (·.oneCell') = true) := ⟨by rw [hO]; simp [optVal, zRest0, Value.oneCell']⟩
  clear hO
  have HDa := Aside0.mk (fun W => dropped_calls a ha true W)
  have HDb := Aside0.mk (fun W => dropped_calls b hb true W)
  have HUp := Aside0.mk upper_calls
  have HK := Aside0.mk (fun x y hx hy g W ho => blind_keys 2 true false false (by decide) (by decide) (by decide) (by decide) (by decide) (by decide) x y hx hy g W ho)
  have hfa : (filtS true false false a).size ≤ 1048576 := Nat.le_trans (filtL_len _ _ _ _) ha
  have hfb : (filtS true false false b).size ≤ 1048576 := Nat.le_trans (filtL_len _ _ _ _) hb
  have hga : (filtS true false false a).size ≤ 1048576 := Nat.le_trans (filtL_len _ _ _ _) ha
  have hgb : (filtS true false false b).size ≤ 1048576 := Nat.le_trans (filtL_len _ _ _ _) hb
  have hra := cmpB_rng (filtS true false false a).data.toList (filtS true false false b).data.toList
  go_enter Tryd.func4, Tryd.ntmps4
  have HB : Aside0 (Below w.heap.size w w) := ⟨Below.refl _ _⟩
  go_upto_region 4 with (first
    | (refine Kd.event_run rfl (HBu.out _ _ _ rfl) ?_)
    | (refine box_event rfl (N := 9) rfl (cs := zs) (t := 28) (HAZ.out _ _ _ rfl) ?_; intro g1 hg1 W1 hz1 hb1; have HZ := Aside0.mk hz1; have HG : Aside0 (w.heap.size ≤ g1) := ⟨by rw [hg1]; exact HB.out.size⟩; replace HB := Aside0.mk (bstep HB.out hb1); clear hz1 hb1 hg1)
    | (refine wpList_store_rowTo rfl 28 _ _ rfl rfl g1 (O 0) rfl rfl 28 zs HZ.out (HSZ.out _) (hzs.trans (HOZ.out _).symm) HOC.out ?_; obtain ⟨W2, hW2⟩ : ∃ W2 : World, W2 = W1.setRow g1 (O 0) := ⟨_, rfl⟩; replace HZ : Aside0 (W2.heap[g1]? = some (.cells (O 0) 28 (0, 0))) := ⟨by rw [hW2]; exact setRow_heap _ _ _ _ _ _ HZ.out⟩; replace HB : Aside0 (Below w.heap.size w W2) := ⟨by rw [hW2]; exact below_setRow HB.out g1 HG.out _⟩; rw [← hW2]; clear hW2))
  have x1 := (blk_cell HZ.out 1).trans (HO1.out _)
  have f1 := blk_frozen HZ.out 1
  have hor : bits .or .u16 0 2 = 2 := by decide
  go_upto_region 8 with (fail)
  obtain ⟨V2, hV⟩ : ∃ V : World, V = W2.setCell ⟨g1, 1, none⟩ (.int .u16 2) := ⟨_, rfl⟩
  replace HZ : Aside0 (V2.heap[g1]? = some (.cells (O 2) 28 (0, 0))) := ⟨by rw [hV]; exact blk_put HZ.out 1 _ (HOS.out _ _)⟩
  replace HB : Aside0 (Below w.heap.size w V2) := ⟨by rw [hV]; exact below_set HB.out HG.out⟩
  rw [← hV]
  clear hV x1 f1 hor
  go_upto_region 11 with (first
    | (go_at_call 17; refine Calls.mono (HDa.out _) ?_; rintro e v3 ⟨rfl, hb3⟩; replace HZ := Aside0.mk ((hb3.block _ (blk_lt HZ.out)).trans HZ.out); replace HB := Aside0.mk (bstep HB.out hb3); clear hb3; clear HDa)
    | (go_at_call 17; refine Calls.mono (HDb.out _) ?_; rintro e v4 ⟨rfl, hb4⟩; replace HZ := Aside0.mk ((hb4.block _ (blk_lt HZ.out)).trans HZ.out); replace HB := Aside0.mk (bstep HB.out hb4); clear hb4; clear HDb))
  obtain ⟨X, hX⟩ : ∃ X : ByteArray, X = filtS true false false a := ⟨_, rfl⟩
  obtain ⟨Y, hY⟩ : ∃ Y : ByteArray, Y = filtS true false false b := ⟨_, rfl⟩
  have HK1 : Aside0 (∀ g W, OrdW W g (effKeys ((2 : Nat) : Int) (modB ((2 : Nat) : Int)) []) (-1) true (bits .and .u16 ((2 : Nat) : Int) 512 != 0) → Calls Tryd.prog 20 #[.pointer (some ⟨g, 0, none⟩), .string a, .string b] W fun e w' => e = .returned (.int .i64 (cmpS X Y)) ∧ Below W.heap.size W w') := ⟨fun g W ho => by rw [hX, hY]; exact HK.out a b ha hb g W ho⟩
  have HK2 : Aside0 (∀ g W, OrdW W g (effKeys ((2 : Nat) : Int) (modB ((2 : Nat) : Int)) []) (-1) true (bits .and .u16 ((2 : Nat) : Int) 512 != 0) → Calls Tryd.prog 20 #[.pointer (some ⟨g, 0, none⟩), .string a, .string X] W fun e w' => e = .returned (.int .i64 0) ∧ Below W.heap.size W w') := ⟨fun g W ho => by
    have h := HK.out a X ha (by rw [hX]; exact hfa) g W ho
    have e : cmpS (filtS true false false a) (filtS true false false X) = 0 := by rw [hX, filtS_twice]; exact (cmpS_zero _ _).2 rfl
    rwa [e] at h⟩
  rw [← hX, ← hY]
  have hE := str_eq X Y
  have hL := str_less X Y
  have hR := cmpB_rng X.data.toList Y.data.toList
  change -1 ≤ cmpS X Y ∧ cmpS X Y ≤ 1 at hR
  generalize cmpS X Y = rn at *
  have hR3 : rn = -1 ∨ rn = 0 ∨ rn = 1 := by omega
  clear HK hra hfa hfb hga hgb hR hX hY
  have HE := Aside0.mk hE
  have HL := Aside0.mk hL
  clear hE hL
  go_upto_region 20 with (first
    | (refine wpList_load_row rfl 28 _ rfl g1 rfl 28 (O 2) (0, 0) _ HZ.out HU.out rfl (HSZ.out _) ?_)
    | (go_at_call 19; refine Calls.mono (HM.out _) ?_; rintro e v7 ⟨g, rfl, ho7, hb7⟩; have HO := Aside0.mk ho7; replace HB := Aside0.mk (bstep HB.out hb7); clear hb7 ho7 HM HZ)
    | (go_at_call 20; refine Calls.mono (HK1.out _ _ HO.out) ?_; rintro e v8 ⟨rfl, hb8⟩; replace HO := Aside0.mk (HO.out.below hb8); replace HB := Aside0.mk (bstep HB.out hb8); clear hb8 HK1)
    | (go_at_call 20; refine Calls.mono (HK2.out _ _ HO.out) ?_; rintro e v9 ⟨rfl, hb9⟩; replace HO := Aside0.mk (HO.out.below hb9); replace HB := Aside0.mk (bstep HB.out hb9); clear hb9 HK2))
  rcases hR3 with rfl | rfl | rfl
  all_goals
    have hE := HE.out
    have hL := HL.out
    simp at hE hL
    go_wp2
    go_ret
    exact ⟨by first | rfl | (simp [hE, hL]; done) | (rw [hE] at hL; simp [hE, hL]; done), HB.out⟩
set_option maxHeartbeats 1600000 in
set_option maxRecDepth 100000 in
theorem blind_101 (a b : ByteArray) (ha : a.size ≤ 1048576) (hb : b.size ≤ 1048576) (w : World) :
    Calls Tryd.prog 4 #[.string a, .string b, .bool true, .int .i64 1] w fun e w' => e = .returned (.bool true) ∧ Below w.heap.size w w' := by
  have HU := Aside0.mk Tryd.underlying28
  obtain ⟨zs, hzs, haz⟩ := alloc_opts0
  have HAZ := Aside0.mk haz
  clear haz
  obtain ⟨O, hO⟩ : ∃ O : Int → Array Value, ∀ m, O m = optVal (.slice none 0 0) m (-1) false false zRest0 := ⟨fun m => optVal (.slice none 0 0) m (-1) false false zRest0, fun _ => rfl⟩
  have HM : Aside0 (∀ W, Calls Tryd.prog 19 #[.agg (O 6)] W fun e w' => ∃ g, e = .returned (.tuple #[.pointer (some ⟨g, 0, none⟩), .bool true]) ∧ OrdW w' g (effKeys ((6 : Nat) : Int) (modB ((6 : Nat) : Int)) []) (-1) true (bits .and .u16 ((6 : Nat) : Int) 512 != 0) ∧ Below W.heap.size W w') := ⟨fun W => by rw [hO]; exact may_blind 6 (by decide) (by decide) W⟩
  have HBu : Aside0 (∀ (a : Act) (o : Oper) (W : World), o.op = .build 28 #[(2, .const (.int .i64 (-1)))] → (execOp a.eval o).run Tryd.prog W = .ok (.value (.agg (O 0))) W) := ⟨fun a o W ho => by rw [hO]; exact build_opts0 a o W ho⟩
  have HO1 : Aside0 (∀ m, (O m)[1]? = some (.int .u16 m)) := ⟨fun m => by rw [hO]; rfl⟩
  have HOS : Aside0 (∀ m n, (O m).setIfInBounds 1 (.int .u16 n) = O n) := ⟨fun m n => by rw [hO, hO]; rfl⟩
  have HOZ : Aside0 (∀ m, (O m).size = 18) := ⟨fun m => by rw [hO]; rfl⟩
  have HSZ : Aside0 (∀ m, (Tryd.prog.info? 28).map (·.size) = some (O m).size) := ⟨fun m => by rw [hO]; exact opt_size none 0 0 m (-1) false false zRest0⟩
  have HOC : Aside0 ((O 0).all (·.oneCell') = true) := ⟨by rw [hO]; simp [optVal, zRest0, Value.oneCell']⟩
  clear hO
  have HDa := Aside0.mk (fun W => dropped_calls a ha true W)
  have HDb := Aside0.mk (fun W => dropped_calls b hb true W)
  have HUp := Aside0.mk upper_calls
  have HK := Aside0.mk (fun x y hx hy g W ho => blind_keys 6 true false true (by decide) (by decide) (by decide) (by decide) (by decide) (by decide) x y hx hy g W ho)
  have hfa : (filtS true false true a).size ≤ 1048576 := Nat.le_trans (filtL_len _ _ _ _) ha
  have hfb : (filtS true false true b).size ≤ 1048576 := Nat.le_trans (filtL_len _ _ _ _) hb
  have hga : (filtS true false false a).size ≤ 1048576 := Nat.le_trans (filtL_len _ _ _ _) ha
  have hgb : (filtS true false false b).size ≤ 1048576 := Nat.le_trans (filtL_len _ _ _ _) hb
  have hra := cmpB_rng (filtS true false true a).data.toList (filtS true false true b).data.toList
  go_enter Tryd.func4, Tryd.ntmps4
  have HB : Aside0 (Below w.heap.size w w) := ⟨Below.refl _ _⟩
  go_upto_region 4 with (first
    | (refine Kd.event_run rfl (HBu.out _ _ _ rfl) ?_)
    | (refine box_event rfl (N := 9) rfl (cs := zs) (t := 28) (HAZ.out _ _ _ rfl) ?_; intro g1 hg1 W1 hz1 hb1; have HZ := Aside0.mk hz1; have HG : Aside0 (w.heap.size ≤ g1) := ⟨by rw [hg1]; exact HB.out.size⟩; replace HB := Aside0.mk (bstep HB.out hb1); clear hz1 hb1 hg1)
    | (refine wpList_store_rowTo rfl 28 _ _ rfl rfl g1 (O 0) rfl rfl 28 zs HZ.out (HSZ.out _) (hzs.trans (HOZ.out _).symm) HOC.out ?_; obtain ⟨W2, hW2⟩ : ∃ W2 : World, W2 = W1.setRow g1 (O 0) := ⟨_, rfl⟩; replace HZ : Aside0 (W2.heap[g1]? = some (.cells (O 0) 28 (0, 0))) := ⟨by rw [hW2]; exact setRow_heap _ _ _ _ _ _ HZ.out⟩; replace HB : Aside0 (Below w.heap.size w W2) := ⟨by rw [hW2]; exact below_setRow HB.out g1 HG.out _⟩; rw [← hW2]; clear hW2))
  have x1 := (blk_cell HZ.out 1).trans (HO1.out _)
  have f1 := blk_frozen HZ.out 1
  have hor : bits .or .u16 0 2 = 2 := by decide
  go_upto_region 8 with (fail)
  obtain ⟨V2, hV⟩ : ∃ V : World, V = W2.setCell ⟨g1, 1, none⟩ (.int .u16 2) := ⟨_, rfl⟩
  replace HZ : Aside0 (V2.heap[g1]? = some (.cells (O 2) 28 (0, 0))) := ⟨by rw [hV]; exact blk_put HZ.out 1 _ (HOS.out _ _)⟩
  replace HB : Aside0 (Below w.heap.size w V2) := ⟨by rw [hV]; exact below_set HB.out HG.out⟩
  rw [← hV]
  clear hV x1 f1 hor
  go_upto_region 11 with (first
    | (go_at_call 17; refine Calls.mono (HDa.out _) ?_; rintro e v3 ⟨rfl, hb3⟩; replace HZ := Aside0.mk ((hb3.block _ (blk_lt HZ.out)).trans HZ.out); replace HB := Aside0.mk (bstep HB.out hb3); clear hb3; clear HDa)
    | (go_at_call 17; refine Calls.mono (HDb.out _) ?_; rintro e v4 ⟨rfl, hb4⟩; replace HZ := Aside0.mk ((hb4.block _ (blk_lt HZ.out)).trans HZ.out); replace HB := Aside0.mk (bstep HB.out hb4); clear hb4; clear HDb))
  have x1 := (blk_cell HZ.out 1).trans (HO1.out _)
  have f1 := blk_frozen HZ.out 1
  have hor : bits .or .u16 2 4 = 6 := by decide
  go_upto_region 13 with (fail)
  obtain ⟨V6, hV⟩ : ∃ V : World, V = v4.setCell ⟨g1, 1, none⟩ (.int .u16 6) := ⟨_, rfl⟩
  replace HZ : Aside0 (V6.heap[g1]? = some (.cells (O 6) 28 (0, 0))) := ⟨by rw [hV]; exact blk_put HZ.out 1 _ (HOS.out _ _)⟩
  replace HB : Aside0 (Below w.heap.size w V6) := ⟨by rw [hV]; exact below_set HB.out HG.out⟩
  rw [← hV]
  clear hV x1 f1 hor
  have HUa := Aside0.mk (fun W => HUp.out (filtS true false false a) hga W)
  have HUb := Aside0.mk (fun W => HUp.out (filtS true false false b) hgb W)
  go_upto_region 15 with (first
    | (go_at_call 18; refine Calls.mono (HUa.out _) ?_; rintro e v5 ⟨rfl, hb5⟩; replace HZ := Aside0.mk ((hb5.block _ (blk_lt HZ.out)).trans HZ.out); replace HB := Aside0.mk (bstep HB.out hb5); clear hb5; clear HUa)
    | (go_at_call 18; refine Calls.mono (HUb.out _) ?_; rintro e v6 ⟨rfl, hb6⟩; replace HZ := Aside0.mk ((hb6.block _ (blk_lt HZ.out)).trans HZ.out); replace HB := Aside0.mk (bstep HB.out hb6); clear hb6; clear HUb))
  rw [filtS_up, filtS_up]
  obtain ⟨X, hX⟩ : ∃ X : ByteArray, X = filtS true false true a := ⟨_, rfl⟩
  obtain ⟨Y, hY⟩ : ∃ Y : ByteArray, Y = filtS true false true b := ⟨_, rfl⟩
  have HK1 : Aside0 (∀ g W, OrdW W g (effKeys ((6 : Nat) : Int) (modB ((6 : Nat) : Int)) []) (-1) true (bits .and .u16 ((6 : Nat) : Int) 512 != 0) → Calls Tryd.prog 20 #[.pointer (some ⟨g, 0, none⟩), .string a, .string b] W fun e w' => e = .returned (.int .i64 (cmpS X Y)) ∧ Below W.heap.size W w') := ⟨fun g W ho => by rw [hX, hY]; exact HK.out a b ha hb g W ho⟩
  have HK2 : Aside0 (∀ g W, OrdW W g (effKeys ((6 : Nat) : Int) (modB ((6 : Nat) : Int)) []) (-1) true (bits .and .u16 ((6 : Nat) : Int) 512 != 0) → Calls Tryd.prog 20 #[.pointer (some ⟨g, 0, none⟩), .string a, .string X] W fun e w' => e = .returned (.int .i64 0) ∧ Below W.heap.size W w') := ⟨fun g W ho => by
    have h := HK.out a X ha (by rw [hX]; exact hfa) g W ho
    have e : cmpS (filtS true false true a) (filtS true false true X) = 0 := by rw [hX, filtS_twice]; exact (cmpS_zero _ _).2 rfl
    rwa [e] at h⟩
  rw [← hX, ← hY]
  have hE := str_eq X Y
  have hL := str_less X Y
  have hR := cmpB_rng X.data.toList Y.data.toList
  change -1 ≤ cmpS X Y ∧ cmpS X Y ≤ 1 at hR
  generalize cmpS X Y = rn at *
  have hR3 : rn = -1 ∨ rn = 0 ∨ rn = 1 := by omega
  clear HK hra hfa hfb hga hgb hR hX hY
  have HE := Aside0.mk hE
  have HL := Aside0.mk hL
  clear hE hL
  go_upto_region 20 with (first
    | (refine wpList_load_row rfl 28 _ rfl g1 rfl 28 (O 6) (0, 0) _ HZ.out HU.out rfl (HSZ.out _) ?_)
    | (go_at_call 19; refine Calls.mono (HM.out _) ?_; rintro e v7 ⟨g, rfl, ho7, hb7⟩; have HO := Aside0.mk ho7; replace HB := Aside0.mk (bstep HB.out hb7); clear hb7 ho7 HM HZ)
    | (go_at_call 20; refine Calls.mono (HK1.out _ _ HO.out) ?_; rintro e v8 ⟨rfl, hb8⟩; replace HO := Aside0.mk (HO.out.below hb8); replace HB := Aside0.mk (bstep HB.out hb8); clear hb8 HK1)
    | (go_at_call 20; refine Calls.mono (HK2.out _ _ HO.out) ?_; rintro e v9 ⟨rfl, hb9⟩; replace HO := Aside0.mk (HO.out.below hb9); replace HB := Aside0.mk (bstep HB.out hb9); clear hb9 HK2))
  rcases hR3 with rfl | rfl | rfl
  all_goals
    have hE := HE.out
    have hL := HL.out
    simp at hE hL
    go_wp2
    go_ret
    exact ⟨by first | rfl | (simp [hE, hL]; done) | (rw [hE] at hL; simp [hE, hL]; done), HB.out⟩
set_option maxHeartbeats 1600000 in
set_option maxRecDepth 100000 in
theorem blind_010 (a b : ByteArray) (ha : a.size ≤ 1048576) (hb : b.size ≤ 1048576) (w : World) :
    Calls Tryd.prog 4 #[.string a, .string b, .bool false, .int .i64 2] w fun e w' => e = .returned (.bool true) ∧ Below w.heap.size w w' := by
  have HU := Aside0.mk Tryd.underlying28
  obtain ⟨zs, hzs, haz⟩ := alloc_opts0
  have HAZ := Aside0.mk haz
  clear haz
  obtain ⟨O, hO⟩ : ∃ O : Int → Array Value, ∀ m, O m = optVal (.slice none 0 0) m (-1) false false zRest0 := ⟨fun m => optVal (.slice none 0 0) m (-1) false false zRest0, fun _ => rfl⟩
  have HM : Aside0 (∀ W, Calls Tryd.prog 19 #[.agg (O 8)] W fun e w' => ∃ g, e = .returned (.tuple #[.pointer (some ⟨g, 0, none⟩), .bool true]) ∧ OrdW w' g (effKeys ((8 : Nat) : Int) (modB ((8 : Nat) : Int)) []) (-1) true (bits .and .u16 ((8 : Nat) : Int) 512 != 0) ∧ Below W.heap.size W w') := ⟨fun W => by rw [hO]; exact may_blind 8 (by decide) (by decide) W⟩
  have HBu : Aside0 (∀ (a : Act) (o : Oper) (W : World), o.op = .build 28 #[(2, .const (.int .i64 (-1)))] → (execOp a.eval o).run Tryd.prog W = .ok (.value (.agg (O 0))) W) := ⟨fun a o W ho => by rw [hO]; exact build_opts0 a o W ho⟩
  have HO1 : Aside0 (∀ m, (O m)[1]? = some (.int .u16 m)) := ⟨fun m => by rw [hO]; rfl⟩
  have HOS : Aside0 (∀ m n, (O m).setIfInBounds 1 (.int .u16 n) = O n) := ⟨fun m n => by rw [hO, hO]; rfl⟩
  have HOZ : Aside0 (∀ m, (O m).size = 18) := ⟨fun m => by rw [hO]; rfl⟩
  have HSZ : Aside0 (∀ m, (Tryd.prog.info? 28).map (·.size) = some (O m).size) := ⟨fun m => by rw [hO]; exact opt_size none 0 0 m (-1) false false zRest0⟩
  have HOC : Aside0 ((O 0).all (·.oneCell') = true) := ⟨by rw [hO]; simp [optVal, zRest0, Value.oneCell']⟩
  clear hO
  have HDa := Aside0.mk (fun W => dropped_calls a ha false W)
  have HDb := Aside0.mk (fun W => dropped_calls b hb false W)
  have HUp := Aside0.mk upper_calls
  have HK := Aside0.mk (fun x y hx hy g W ho => blind_keys 8 false true false (by decide) (by decide) (by decide) (by decide) (by decide) (by decide) x y hx hy g W ho)
  have hfa : (filtS false true false a).size ≤ 1048576 := Nat.le_trans (filtL_len _ _ _ _) ha
  have hfb : (filtS false true false b).size ≤ 1048576 := Nat.le_trans (filtL_len _ _ _ _) hb
  have hga : (filtS false true false a).size ≤ 1048576 := Nat.le_trans (filtL_len _ _ _ _) ha
  have hgb : (filtS false true false b).size ≤ 1048576 := Nat.le_trans (filtL_len _ _ _ _) hb
  have hra := cmpB_rng (filtS false true false a).data.toList (filtS false true false b).data.toList
  go_enter Tryd.func4, Tryd.ntmps4
  have HB : Aside0 (Below w.heap.size w w) := ⟨Below.refl _ _⟩
  go_upto_region 4 with (first
    | (refine Kd.event_run rfl (HBu.out _ _ _ rfl) ?_)
    | (refine box_event rfl (N := 9) rfl (cs := zs) (t := 28) (HAZ.out _ _ _ rfl) ?_; intro g1 hg1 W1 hz1 hb1; have HZ := Aside0.mk hz1; have HG : Aside0 (w.heap.size ≤ g1) := ⟨by rw [hg1]; exact HB.out.size⟩; replace HB := Aside0.mk (bstep HB.out hb1); clear hz1 hb1 hg1)
    | (refine wpList_store_rowTo rfl 28 _ _ rfl rfl g1 (O 0) rfl rfl 28 zs HZ.out (HSZ.out _) (hzs.trans (HOZ.out _).symm) HOC.out ?_; obtain ⟨W2, hW2⟩ : ∃ W2 : World, W2 = W1.setRow g1 (O 0) := ⟨_, rfl⟩; replace HZ : Aside0 (W2.heap[g1]? = some (.cells (O 0) 28 (0, 0))) := ⟨by rw [hW2]; exact setRow_heap _ _ _ _ _ _ HZ.out⟩; replace HB : Aside0 (Below w.heap.size w W2) := ⟨by rw [hW2]; exact below_setRow HB.out g1 HG.out _⟩; rw [← hW2]; clear hW2))
  have x1 := (blk_cell HZ.out 1).trans (HO1.out _)
  have f1 := blk_frozen HZ.out 1
  have hor : bits .or .u16 0 8 = 8 := by decide
  go_upto_region 8 with (fail)
  obtain ⟨V8, hV⟩ : ∃ V : World, V = W2.setCell ⟨g1, 1, none⟩ (.int .u16 8) := ⟨_, rfl⟩
  replace HZ : Aside0 (V8.heap[g1]? = some (.cells (O 8) 28 (0, 0))) := ⟨by rw [hV]; exact blk_put HZ.out 1 _ (HOS.out _ _)⟩
  replace HB : Aside0 (Below w.heap.size w V8) := ⟨by rw [hV]; exact below_set HB.out HG.out⟩
  rw [← hV]
  clear hV x1 f1 hor
  go_upto_region 11 with (first
    | (go_at_call 17; refine Calls.mono (HDa.out _) ?_; rintro e v3 ⟨rfl, hb3⟩; replace HZ := Aside0.mk ((hb3.block _ (blk_lt HZ.out)).trans HZ.out); replace HB := Aside0.mk (bstep HB.out hb3); clear hb3; clear HDa)
    | (go_at_call 17; refine Calls.mono (HDb.out _) ?_; rintro e v4 ⟨rfl, hb4⟩; replace HZ := Aside0.mk ((hb4.block _ (blk_lt HZ.out)).trans HZ.out); replace HB := Aside0.mk (bstep HB.out hb4); clear hb4; clear HDb))
  obtain ⟨X, hX⟩ : ∃ X : ByteArray, X = filtS false true false a := ⟨_, rfl⟩
  obtain ⟨Y, hY⟩ : ∃ Y : ByteArray, Y = filtS false true false b := ⟨_, rfl⟩
  have HK1 : Aside0 (∀ g W, OrdW W g (effKeys ((8 : Nat) : Int) (modB ((8 : Nat) : Int)) []) (-1) true (bits .and .u16 ((8 : Nat) : Int) 512 != 0) → Calls Tryd.prog 20 #[.pointer (some ⟨g, 0, none⟩), .string a, .string b] W fun e w' => e = .returned (.int .i64 (cmpS X Y)) ∧ Below W.heap.size W w') := ⟨fun g W ho => by rw [hX, hY]; exact HK.out a b ha hb g W ho⟩
  have HK2 : Aside0 (∀ g W, OrdW W g (effKeys ((8 : Nat) : Int) (modB ((8 : Nat) : Int)) []) (-1) true (bits .and .u16 ((8 : Nat) : Int) 512 != 0) → Calls Tryd.prog 20 #[.pointer (some ⟨g, 0, none⟩), .string a, .string X] W fun e w' => e = .returned (.int .i64 0) ∧ Below W.heap.size W w') := ⟨fun g W ho => by
    have h := HK.out a X ha (by rw [hX]; exact hfa) g W ho
    have e : cmpS (filtS false true false a) (filtS false true false X) = 0 := by rw [hX, filtS_twice]; exact (cmpS_zero _ _).2 rfl
    rwa [e] at h⟩
  rw [← hX, ← hY]
  have hE := str_eq X Y
  have hL := str_less X Y
  have hR := cmpB_rng X.data.toList Y.data.toList
  change -1 ≤ cmpS X Y ∧ cmpS X Y ≤ 1 at hR
  generalize cmpS X Y = rn at *
  have hR3 : rn = -1 ∨ rn = 0 ∨ rn = 1 := by omega
  clear HK hra hfa hfb hga hgb hR hX hY
  have HE := Aside0.mk hE
  have HL := Aside0.mk hL
  clear hE hL
  go_upto_region 20 with (first
    | (refine wpList_load_row rfl 28 _ rfl g1 rfl 28 (O 8) (0, 0) _ HZ.out HU.out rfl (HSZ.out _) ?_)
    | (go_at_call 19; refine Calls.mono (HM.out _) ?_; rintro e v7 ⟨g, rfl, ho7, hb7⟩; have HO := Aside0.mk ho7; replace HB := Aside0.mk (bstep HB.out hb7); clear hb7 ho7 HM HZ)
    | (go_at_call 20; refine Calls.mono (HK1.out _ _ HO.out) ?_; rintro e v8 ⟨rfl, hb8⟩; replace HO := Aside0.mk (HO.out.below hb8); replace HB := Aside0.mk (bstep HB.out hb8); clear hb8 HK1)
    | (go_at_call 20; refine Calls.mono (HK2.out _ _ HO.out) ?_; rintro e v9 ⟨rfl, hb9⟩; replace HO := Aside0.mk (HO.out.below hb9); replace HB := Aside0.mk (bstep HB.out hb9); clear hb9 HK2))
  rcases hR3 with rfl | rfl | rfl
  all_goals
    have hE := HE.out
    have hL := HL.out
    simp at hE hL
    go_wp2
    go_ret
    exact ⟨by first | rfl | (simp [hE, hL]; done) | (rw [hE] at hL; simp [hE, hL]; done), HB.out⟩
set_option maxHeartbeats 1600000 in
set_option maxRecDepth 100000 in
theorem blind_011 (a b : ByteArray) (ha : a.size ≤ 1048576) (hb : b.size ≤ 1048576) (w : World) :
    Calls Tryd.prog 4 #[.string a, .string b, .bool true, .int .i64 2] w fun e w' => e = .returned (.bool true) ∧ Below w.heap.size w w' := by
  have HU := Aside0.mk Tryd.underlying28
  obtain ⟨zs, hzs, haz⟩ := alloc_opts0
  have HAZ := Aside0.mk haz
  clear haz
  obtain ⟨O, hO⟩ : ∃ O : Int → Array Value, ∀ m, O m = optVal (.slice none 0 0) m (-1) false false zRest0 := ⟨fun m => optVal (.slice none 0 0) m (-1) false false zRest0, fun _ => rfl⟩
  have HM : Aside0 (∀ W, Calls Tryd.prog 19 #[.agg (O 12)] W fun e w' => ∃ g, e = .returned (.tuple #[.pointer (some ⟨g, 0, none⟩), .bool true]) ∧ OrdW w' g (effKeys ((12 : Nat) : Int) (modB ((12 : Nat) : Int)) []) (-1) true (bits .and .u16 ((12 : Nat) : Int) 512 != 0) ∧ Below W.heap.size W w') := ⟨fun W => by rw [hO]; exact may_blind 12 (by decide) (by decide) W⟩
  have HBu : Aside0 (∀ (a : Act) (o : Oper) (W : World), o.op = .build 28 #[(2, .const (.int .i64 (-1)))] → (execOp a.eval o).run Tryd.prog W = .ok (.value (.agg (O 0))) W) := ⟨fun a o W ho => by rw [hO]; exact build_opts0 a o W ho⟩
  have HO1 : Aside0 (∀ m, (O m)[1]? = some (.int .u16 m)) := ⟨fun m => by rw [hO]; rfl⟩
  have HOS : Aside0 (∀ m n, (O m).setIfInBounds 1 (.int .u16 n) = O n) := ⟨fun m n => by rw [hO, hO]; rfl⟩
  have HOZ : Aside0 (∀ m, (O m).size = 18) := ⟨fun m => by rw [hO]; rfl⟩
  have HSZ : Aside0 (∀ m, (Tryd.prog.info? 28).map (·.size) = some (O m).size) := ⟨fun m => by rw [hO]; exact opt_size none 0 0 m (-1) false false zRest0⟩
  have HOC : Aside0 ((O 0).all (·.oneCell') = true) := ⟨by rw [hO]; simp [optVal, zRest0, Value.oneCell']⟩
  clear hO
  have HDa := Aside0.mk (fun W => dropped_calls a ha false W)
  have HDb := Aside0.mk (fun W => dropped_calls b hb false W)
  have HUp := Aside0.mk upper_calls
  have HK := Aside0.mk (fun x y hx hy g W ho => blind_keys 12 false true true (by decide) (by decide) (by decide) (by decide) (by decide) (by decide) x y hx hy g W ho)
  have hfa : (filtS false true true a).size ≤ 1048576 := Nat.le_trans (filtL_len _ _ _ _) ha
  have hfb : (filtS false true true b).size ≤ 1048576 := Nat.le_trans (filtL_len _ _ _ _) hb
  have hga : (filtS false true false a).size ≤ 1048576 := Nat.le_trans (filtL_len _ _ _ _) ha
  have hgb : (filtS false true false b).size ≤ 1048576 := Nat.le_trans (filtL_len _ _ _ _) hb
  have hra := cmpB_rng (filtS false true true a).data.toList (filtS false true true b).data.toList
  go_enter Tryd.func4, Tryd.ntmps4
  have HB : Aside0 (Below w.heap.size w w) := ⟨Below.refl _ _⟩
  go_upto_region 4 with (first
    | (refine Kd.event_run rfl (HBu.out _ _ _ rfl) ?_)
    | (refine box_event rfl (N := 9) rfl (cs := zs) (t := 28) (HAZ.out _ _ _ rfl) ?_; intro g1 hg1 W1 hz1 hb1; have HZ := Aside0.mk hz1; have HG : Aside0 (w.heap.size ≤ g1) := ⟨by rw [hg1]; exact HB.out.size⟩; replace HB := Aside0.mk (bstep HB.out hb1); clear hz1 hb1 hg1)
    | (refine wpList_store_rowTo rfl 28 _ _ rfl rfl g1 (O 0) rfl rfl 28 zs HZ.out (HSZ.out _) (hzs.trans (HOZ.out _).symm) HOC.out ?_; obtain ⟨W2, hW2⟩ : ∃ W2 : World, W2 = W1.setRow g1 (O 0) := ⟨_, rfl⟩; replace HZ : Aside0 (W2.heap[g1]? = some (.cells (O 0) 28 (0, 0))) := ⟨by rw [hW2]; exact setRow_heap _ _ _ _ _ _ HZ.out⟩; replace HB : Aside0 (Below w.heap.size w W2) := ⟨by rw [hW2]; exact below_setRow HB.out g1 HG.out _⟩; rw [← hW2]; clear hW2))
  have x1 := (blk_cell HZ.out 1).trans (HO1.out _)
  have f1 := blk_frozen HZ.out 1
  have hor : bits .or .u16 0 8 = 8 := by decide
  go_upto_region 8 with (fail)
  obtain ⟨V8, hV⟩ : ∃ V : World, V = W2.setCell ⟨g1, 1, none⟩ (.int .u16 8) := ⟨_, rfl⟩
  replace HZ : Aside0 (V8.heap[g1]? = some (.cells (O 8) 28 (0, 0))) := ⟨by rw [hV]; exact blk_put HZ.out 1 _ (HOS.out _ _)⟩
  replace HB : Aside0 (Below w.heap.size w V8) := ⟨by rw [hV]; exact below_set HB.out HG.out⟩
  rw [← hV]
  clear hV x1 f1 hor
  go_upto_region 11 with (first
    | (go_at_call 17; refine Calls.mono (HDa.out _) ?_; rintro e v3 ⟨rfl, hb3⟩; replace HZ := Aside0.mk ((hb3.block _ (blk_lt HZ.out)).trans HZ.out); replace HB := Aside0.mk (bstep HB.out hb3); clear hb3; clear HDa)
    | (go_at_call 17; refine Calls.mono (HDb.out _) ?_; rintro e v4 ⟨rfl, hb4⟩; replace HZ := Aside0.mk ((hb4.block _ (blk_lt HZ.out)).trans HZ.out); replace HB := Aside0.mk (bstep HB.out hb4); clear hb4; clear HDb))
  have x1 := (blk_cell HZ.out 1).trans (HO1.out _)
  have f1 := blk_frozen HZ.out 1
  have hor : bits .or .u16 8 4 = 12 := by decide
  go_upto_region 13 with (fail)
  obtain ⟨V12, hV⟩ : ∃ V : World, V = v4.setCell ⟨g1, 1, none⟩ (.int .u16 12) := ⟨_, rfl⟩
  replace HZ : Aside0 (V12.heap[g1]? = some (.cells (O 12) 28 (0, 0))) := ⟨by rw [hV]; exact blk_put HZ.out 1 _ (HOS.out _ _)⟩
  replace HB : Aside0 (Below w.heap.size w V12) := ⟨by rw [hV]; exact below_set HB.out HG.out⟩
  rw [← hV]
  clear hV x1 f1 hor
  have HUa := Aside0.mk (fun W => HUp.out (filtS false true false a) hga W)
  have HUb := Aside0.mk (fun W => HUp.out (filtS false true false b) hgb W)
  go_upto_region 15 with (first
    | (go_at_call 18; refine Calls.mono (HUa.out _) ?_; rintro e v5 ⟨rfl, hb5⟩; replace HZ := Aside0.mk ((hb5.block _ (blk_lt HZ.out)).trans HZ.out); replace HB := Aside0.mk (bstep HB.out hb5); clear hb5; clear HUa)
    | (go_at_call 18; refine Calls.mono (HUb.out _) ?_; rintro e v6 ⟨rfl, hb6⟩; replace HZ := Aside0.mk ((hb6.block _ (blk_lt HZ.out)).trans HZ.out); replace HB := Aside0.mk (bstep HB.out hb6); clear hb6; clear HUb))
  rw [filtS_up, filtS_up]
  obtain ⟨X, hX⟩ : ∃ X : ByteArray, X = filtS false true true a := ⟨_, rfl⟩
  obtain ⟨Y, hY⟩ : ∃ Y : ByteArray, Y = filtS false true true b := ⟨_, rfl⟩
  have HK1 : Aside0 (∀ g W, OrdW W g (effKeys ((12 : Nat) : Int) (modB ((12 : Nat) : Int)) []) (-1) true (bits .and .u16 ((12 : Nat) : Int) 512 != 0) → Calls Tryd.prog 20 #[.pointer (some ⟨g, 0, none⟩), .string a, .string b] W fun e w' => e = .returned (.int .i64 (cmpS X Y)) ∧ Below W.heap.size W w') := ⟨fun g W ho => by rw [hX, hY]; exact HK.out a b ha hb g W ho⟩
  have HK2 : Aside0 (∀ g W, OrdW W g (effKeys ((12 : Nat) : Int) (modB ((12 : Nat) : Int)) []) (-1) true (bits .and .u16 ((12 : Nat) : Int) 512 != 0) → Calls Tryd.prog 20 #[.pointer (some ⟨g, 0, none⟩), .string a, .string X] W fun e w' => e = .returned (.int .i64 0) ∧ Below W.heap.size W w') := ⟨fun g W ho => by
    have h := HK.out a X ha (by rw [hX]; exact hfa) g W ho
    have e : cmpS (filtS false true true a) (filtS false true true X) = 0 := by rw [hX, filtS_twice]; exact (cmpS_zero _ _).2 rfl
    rwa [e] at h⟩
  rw [← hX, ← hY]
  have hE := str_eq X Y
  have hL := str_less X Y
  have hR := cmpB_rng X.data.toList Y.data.toList
  change -1 ≤ cmpS X Y ∧ cmpS X Y ≤ 1 at hR
  generalize cmpS X Y = rn at *
  have hR3 : rn = -1 ∨ rn = 0 ∨ rn = 1 := by omega
  clear HK hra hfa hfb hga hgb hR hX hY
  have HE := Aside0.mk hE
  have HL := Aside0.mk hL
  clear hE hL
  go_upto_region 20 with (first
    | (refine wpList_load_row rfl 28 _ rfl g1 rfl 28 (O 12) (0, 0) _ HZ.out HU.out rfl (HSZ.out _) ?_)
    | (go_at_call 19; refine Calls.mono (HM.out _) ?_; rintro e v7 ⟨g, rfl, ho7, hb7⟩; have HO := Aside0.mk ho7; replace HB := Aside0.mk (bstep HB.out hb7); clear hb7 ho7 HM HZ)
    | (go_at_call 20; refine Calls.mono (HK1.out _ _ HO.out) ?_; rintro e v8 ⟨rfl, hb8⟩; replace HO := Aside0.mk (HO.out.below hb8); replace HB := Aside0.mk (bstep HB.out hb8); clear hb8 HK1)
    | (go_at_call 20; refine Calls.mono (HK2.out _ _ HO.out) ?_; rintro e v9 ⟨rfl, hb9⟩; replace HO := Aside0.mk (HO.out.below hb9); replace HB := Aside0.mk (bstep HB.out hb9); clear hb9 HK2))
  rcases hR3 with rfl | rfl | rfl
  all_goals
    have hE := HE.out
    have hL := HL.out
    simp at hE hL
    go_wp2
    go_ret
    exact ⟨by first | rfl | (simp [hE, hL]; done) | (rw [hE] at hL; simp [hE, hL]; done), HB.out⟩
theorem blind_walk (a b : ByteArray) (ha : a.size ≤ 1048576) (hb : b.size ≤ 1048576) (f : Bool) (q : Int) (w : World) :
    Calls Tryd.prog 4 #[.string a, .string b, .bool f, .int .i64 q] w fun e w' => e = .returned (.bool true) ∧ Below w.heap.size w w' := by
  by_cases h1 : q = 1
  · subst h1
    cases f
    · exact blind_100 a b ha hb w
    · exact blind_101 a b ha hb w
  · by_cases h2 : q = 2
    · subst h2
      cases f
      · exact blind_010 a b ha hb w
      · exact blind_011 a b ha hb w
    · cases f
      · exact blind_000 a b ha hb q (beq_eq_false_iff_ne.mpr h1) (beq_eq_false_iff_ne.mpr h2) w
      · exact blind_001 a b ha hb q (beq_eq_false_iff_ne.mpr h1) (beq_eq_false_iff_ne.mpr h2) w
end Go.Proofs.YtnnoegjgaelafaaDoor.Pr
