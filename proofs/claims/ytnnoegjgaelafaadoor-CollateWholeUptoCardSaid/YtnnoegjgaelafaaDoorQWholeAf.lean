/- numeral's plain: what it answers. By hand: a function with three labels. -/
import Derived.Test.YtnnoegjgaelafaaDoorQWholeAe
namespace Go.Proofs.YtnnoegjgaelafaaDoor.Nu
open Go.RowKit Go.Proofs.YtnnoegjgaelafaaDoorW.PrintWords Go.Proofs.YtnnoegjgaelafaaDoorW.PrintLast Go.Proofs.YtnnoegjgaelafaaDoorW.PrintMore
set_option linter.unusedVariables false
set_option linter.unusedSimpArgs false
attribute [local go_sem] max2_int min2_int max_two min_two

def dgI (c : Int) : Bool := decide (48 ≤ c) && decide (c ≤ 57)
/-- The place behind the digits from i on. -/
def runTo (s : ByteArray) (i : Nat) : Nat := if h : i < s.size then if dgI ((s[i].toNat : Nat) : Int) then runTo s (i + 1) else i else i
termination_by s.size - i
theorem run_go (s : ByteArray) (k : Nat) (h : k < s.size) (hb : dgI ((s[k].toNat : Nat) : Int) = true) : runTo s k = runTo s (k + 1) := by rw [runTo, dif_pos h, if_pos hb]
theorem run_stop (s : ByteArray) (k : Nat) (h : k < s.size) (hb : dgI ((s[k].toNat : Nat) : Int) = false) : runTo s k = k := by rw [runTo, dif_pos h, if_neg (by rw [hb]; decide)]
theorem run_end (s : ByteArray) (k : Nat) (h : ¬ k < s.size) : runTo s k = k := by rw [runTo, dif_neg h]
theorem run_bounds (s : ByteArray) : ∀ (n i : Nat), s.size - i = n → i ≤ s.size → i ≤ runTo s i ∧ runTo s i ≤ s.size
  | 0, i, hn, hi => by rw [run_end s i (by omega)]; exact ⟨Nat.le_refl _, hi⟩
  | n + 1, i, hn, hi => by
    have hlt : i < s.size := by omega
    cases hb : dgI ((s[i].toNat : Nat) : Int)
    · rw [run_stop s i hlt hb]; exact ⟨Nat.le_refl _, hi⟩
    · rw [run_go s i hlt hb]
      have := run_bounds s n (i + 1) (by omega) (by omega)
      omega
theorem run_ge (s : ByteArray) (i : Nat) (hi : i ≤ s.size) : i ≤ runTo s i := (run_bounds s _ i rfl hi).1
theorem run_le (s : ByteArray) (i : Nat) (hi : i ≤ s.size) : runTo s i ≤ s.size := (run_bounds s _ i rfl hi).2
def dotAt (s : ByteArray) (j : Nat) : Bool := if h : j < s.size then ((s[j].toNat : Nat) : Int) == 46 else false
def plW (s : ByteArray) (i : Nat) : ByteArray := s.extract i (runTo s i)
def plF (s : ByteArray) (i : Nat) : ByteArray := if dotAt s (runTo s i) then s.extract (runTo s i + 1) (runTo s (runTo s i + 1)) else ⟨#[]⟩
def plE (s : ByteArray) (i : Nat) : Nat := if dotAt s (runTo s i) then runTo s (runTo s i + 1) else runTo s i
def numeral_plain.f (a0 : ByteArray) (a1 : Int) : Option (Bool × ByteArray × ByteArray × Int) :=
  if 0 ≤ a1 ∧ a1 ≤ (a0.size : Int) ∧ a0.size ≤ 140737488351232 then (if (plW a0 a1.toNat).toList = [] ∧ (plF a0 a1.toNat).toList = [] then some (false, ⟨#[]⟩, ⟨#[]⟩, 0) else some (false, plW a0 a1.toNat, plF a0 a1.toNat, (plE a0 a1.toNat : Int))) else none
theorem digit_calls (c : Int) (b : Bool) (hb : dgI c = b) (w : World) : Calls Tryd.prog 102 #[.int .u8 c] w fun e w' => e = .returned (.bool b) ∧ Drawn0 w w' :=
  numeral_digit.calls c b w (by
    subst hb
    unfold numeral_digit.f dgI
    by_cases h : c ≥ 48
    · rw [if_pos h, decide_eq_true (show 48 ≤ c from h)]; rfl
    · rw [if_neg h, decide_eq_false (show ¬ 48 ≤ c from h)]; rfl)
/-- What stands in memory while plain runs. -/
structure PlW (w : World) (g : Nat) (wh fr : ByteArray) (w' : World) : Prop where
  res : w'.heap[g]? = some (.cells #[.bool false, .string (⟨#[]⟩ : ByteArray), .string (⟨#[]⟩ : ByteArray), .int .i64 0] 132 (0, 0))
  fnd : w'.heap[g + 1]? = some (.cells #[.bool false, .string wh, .string fr, .int .i64 0] 132 (0, 0))
  bel : Below w.heap.size w w'
theorem PlW.drewN {w : World} {g : Nat} {wh fr : ByteArray} {w' : World} (h : PlW w g wh fr w') (n : Nat) : PlW w g wh fr (w'.drewN n) := ⟨h.res, h.fnd, pw_below_drewN h.bel n⟩
def plJ (s : ByteArray) (i : Nat) (w : World) (g : Nat) : Nat → Act → World → Prop
  | 0, a, w' => (∃ k : Nat, i ≤ k ∧ k ≤ s.size ∧ runTo s i = runTo s k ∧ PlW w g ⟨#[]⟩ ⟨#[]⟩ w' ∧ ∃ (u2 u3 u8 u9 u10 u11 u12 u13 u14 u15 u16 u17 u18 u19 u20 u21 u22 u23 u24 u25 u26 u27 u28 u29 u30 u31 u32 u33 u34 u35 u36 u37 u38 u39 u40 u41 u42 u43 u44 u45 u46 u47 u48 u49 u50 u51 u52 u53 u54 u55 u56 u57 u58 u59 u60 u61 u62 u63 u64 u65 u66 u67 u68 u69 u70 u71 : Value), a = { tmps := #[.string s, .int .i64 k, u2, u3, .pointer (some ⟨g, 0, none⟩), .pointer (some ⟨g + 1, 0, none⟩), .int .i64 i, .int .i64 i, u8, u9, u10, u11, u12, u13, u14, u15, u16, u17, u18, u19, u20, u21, u22, u23, u24, u25, u26, u27, u28, u29, u30, u31, u32, u33, u34, u35, u36, u37, u38, u39, u40, u41, u42, u43, u44, u45, u46, u47, u48, u49, u50, u51, u52, u53, u54, u55, u56, u57, u58, u59, u60, u61, u62, u63, u64, u65, u66, u67, u68, u69, u70, u71], defers := [] })
  | 1, a, w' => (∃ k : Nat, runTo s i + 1 ≤ k ∧ k ≤ s.size ∧ dotAt s (runTo s i) = true ∧ runTo s (runTo s i + 1) = runTo s k ∧ PlW w g (plW s i) ⟨#[]⟩ w' ∧ ∃ (u2 u3 u8 u9 u10 u11 u12 u13 u14 u15 u16 u17 u18 u19 u20 u21 u22 u23 u24 u25 u26 u27 u28 u29 u30 u31 u32 u33 u34 u35 u36 u37 u38 u39 u40 u41 u42 u43 u44 u45 u46 u47 u48 u49 u50 u51 u52 u53 u54 u55 u56 u57 u58 u59 u60 u61 u62 u63 u64 u65 u66 u67 u68 u69 u70 u71 : Value), a = { tmps := #[.string s, .int .i64 k, u2, u3, .pointer (some ⟨g, 0, none⟩), .pointer (some ⟨g + 1, 0, none⟩), .int .i64 ((runTo s i + 1 : Nat) : Int), .int .i64 (runTo s i : Nat), u8, u9, u10, u11, u12, u13, u14, u15, u16, u17, u18, u19, u20, u21, u22, u23, u24, u25, u26, u27, u28, u29, u30, u31, u32, u33, u34, u35, u36, u37, u38, u39, u40, u41, u42, u43, u44, u45, u46, u47, u48, u49, u50, u51, u52, u53, u54, u55, u56, u57, u58, u59, u60, u61, u62, u63, u64, u65, u66, u67, u68, u69, u70, u71], defers := [] })
  | 2, a, w' => (dotAt s (runTo s i) = false ∧ PlW w g (plW s i) ⟨#[]⟩ w' ∧ ∃ (u2 u3 u8 u9 u10 u11 u12 u13 u14 u15 u16 u17 u18 u19 u20 u21 u22 u23 u24 u25 u26 u27 u28 u29 u30 u31 u32 u33 u34 u35 u36 u37 u38 u39 u40 u41 u42 u43 u44 u45 u46 u47 u48 u49 u50 u51 u52 u53 u54 u55 u56 u57 u58 u59 u60 u61 u62 u63 u64 u65 u66 u67 u68 u69 u70 u71 : Value), a = { tmps := #[.string s, .int .i64 (runTo s i : Nat), u2, u3, .pointer (some ⟨g, 0, none⟩), .pointer (some ⟨g + 1, 0, none⟩), .int .i64 i, .int .i64 (runTo s i : Nat), u8, u9, u10, u11, u12, u13, u14, u15, u16, u17, u18, u19, u20, u21, u22, u23, u24, u25, u26, u27, u28, u29, u30, u31, u32, u33, u34, u35, u36, u37, u38, u39, u40, u41, u42, u43, u44, u45, u46, u47, u48, u49, u50, u51, u52, u53, u54, u55, u56, u57, u58, u59, u60, u61, u62, u63, u64, u65, u66, u67, u68, u69, u70, u71], defers := [] })
  | _, _, _ => False
theorem PlW.setW {w : World} {g : Nat} {w' : World} (h : PlW w g ⟨#[]⟩ ⟨#[]⟩ w') (hg : w.heap.size = g) (wh : ByteArray) : PlW w g wh ⟨#[]⟩ (w'.setCell ⟨g + 1, 1, none⟩ (.string wh)) :=
  ⟨blk_far h.res (show g ≠ g + 1 by omega) _, blk_put h.fnd 1 _ rfl, below_set h.bel (by omega)⟩
theorem PlW.setF {w : World} {g : Nat} {wh : ByteArray} {w' : World} (h : PlW w g wh ⟨#[]⟩ w') (hg : w.heap.size = g) (fr : ByteArray) : PlW w g wh fr (w'.setCell ⟨g + 1, 2, none⟩ (.string fr)) :=
  ⟨blk_far h.res (show g ≠ g + 1 by omega) _, blk_put h.fnd 2 _ rfl, below_set h.bel (by omega)⟩
theorem plw_to {w : World} {g : Nat} {wh wh' fr : ByteArray} {w' : World} (e : wh = wh') (h : PlW w g wh fr w') : PlW w g wh' fr w' := e ▸ h
def plM (s : ByteArray) : Nat → Act → World → Nat := fun l a _ => (2 - l) * (s.size + 1) + (s.size - (intOf (a.tmps.getD 1 undef)).toNat)
set_option maxHeartbeats 4000000 in
set_option maxRecDepth 100000 in
theorem plain_walk (s : ByteArray) (i : Nat) (w : World) (hs : s.size ≤ 140737488351232) (hi : i ≤ s.size) (r1 : Bool) (r2 r3 : ByteArray) (r4 : Int) (hr : (if (plW s i).toList = [] ∧ (plF s i).toList = [] then some (false, (⟨#[]⟩ : ByteArray), (⟨#[]⟩ : ByteArray), (0 : Int)) else some (false, plW s i, plF s i, (plE s i : Int))) = some (r1, r2, r3, r4)) :
    Calls Tryd.prog 86 #[.string s, .int .i64 i] w fun e w' => e = .returned (.agg #[.bool r1, .string r2, .string r3, .int .i64 r4]) ∧ Below w.heap.size w w' := by
  have HR := Aside0.mk hr
  clear hr
  go_enter Tryd.func86, Tryd.ntmps86
  go_wp2
  obtain ⟨g, hg⟩ : ∃ g : Nat, w.heap.size = g := ⟨_, rfl⟩
  have HG := Aside0.mk hg
  refine Pr.wp_scope_many (plJ s i w g) (plM s) ?_ ?_
  · go_upto_region 2 with (fail)
    obtain ⟨W0, hW0⟩ : ∃ W0 : World, W0 = (w.alloc (.cells #[.bool false, .string (⟨#[]⟩ : ByteArray), .string (⟨#[]⟩ : ByteArray), .int .i64 0] 132)).alloc (.cells #[.bool false, .string (⟨#[]⟩ : ByteArray), .string (⟨#[]⟩ : ByteArray), .int .i64 0] 132) := ⟨_, rfl⟩
    have HP : Aside0 (PlW w g ⟨#[]⟩ ⟨#[]⟩ W0) := ⟨⟨by rw [hW0, ← hg]; exact blk_alloc (heap_alloc_new _ _) _, by rw [hW0, ← hg]; exact (by simpa using heap_alloc_new (w.alloc (.cells #[.bool false, .string (⟨#[]⟩ : ByteArray), .string (⟨#[]⟩ : ByteArray), .int .i64 0] 132)) (.cells #[.bool false, .string (⟨#[]⟩ : ByteArray), .string (⟨#[]⟩ : ByteArray), .int .i64 0] 132)), by rw [hW0]; exact ((Below.refl _ _).alloc (Nat.le_refl _) _).alloc (by simp) _⟩⟩
    rw [← hW0]
    try rw [hg]
    clear hW0 hg HR
    go_wp2
    go_step3
    have HK2 : Aside0 (runTo s i = runTo s i) := ⟨rfl⟩
    have y0 := blk_cell HP.out.fnd 0; have y1 := blk_cell HP.out.fnd 1; have y2 := blk_cell HP.out.fnd 2; have y3 := blk_cell HP.out.fnd 3; simp at y0 y1 y2 y3; have e0 := blk_frozen HP.out.fnd 0; have e1 := blk_frozen HP.out.fnd 1; have e2 := blk_frozen HP.out.fnd 2; have e3 := blk_frozen HP.out.fnd 3
    by_cases hlt : i < s.size
    · have hd : decide (i < s.size) = true := decide_eq_true hlt
      cases hb : dgI ((s[i].toNat : Nat) : Int)
      · have HJ := Aside0.mk (HK2.out.trans (run_stop s i hlt hb))
        cases hdot : ((s[i].toNat : Nat) : Int) == 46
        · have HDT : Aside0 (dotAt s (runTo s i) = false) := ⟨by rw [HJ.out]; unfold dotAt; rw [dif_pos hlt]; exact hdot⟩
          have HPW : Aside0 (ByteArray.empty = plW s i) := ⟨by unfold plW; rw [HJ.out]; simp⟩
          go_wp2_with (first | (go_at_call 102; refine (digit_calls _ _ hb _).mono ?_; rintro e w1 ⟨rfl, ⟨n1, rfl⟩⟩))
          go_step3
          exact ⟨HDT.out, plw_to HPW.out ((HP.out.drewN _).setW HG.out _), _, _, _, _, _, _, _, _, _, _, _, _, _, _, _, _, _, _, _, _, _, _, _, _, _, _, _, _, _, _, _, _, _, _, _, _, _, _, _, _, _, _, _, _, _, _, _, _, _, _, _, _, _, _, _, _, _, _, _, _, _, _, _, _, _, _, by rw [HJ.out]⟩
        · have HDT : Aside0 (dotAt s (runTo s i) = true) := ⟨by rw [HJ.out]; unfold dotAt; rw [dif_pos hlt]; exact hdot⟩
          have HPW : Aside0 (ByteArray.empty = plW s i) := ⟨by unfold plW; rw [HJ.out]; simp⟩
          go_wp2_with (first | (go_at_call 102; refine (digit_calls _ _ hb _).mono ?_; rintro e w1 ⟨rfl, ⟨n1, rfl⟩⟩))
          go_step3
          exact ⟨i + 1, Nat.le_of_eq (by rw [HJ.out]), by omega, HDT.out, by rw [HJ.out], plw_to HPW.out ((HP.out.drewN _).setW HG.out _), _, _, _, _, _, _, _, _, _, _, _, _, _, _, _, _, _, _, _, _, _, _, _, _, _, _, _, _, _, _, _, _, _, _, _, _, _, _, _, _, _, _, _, _, _, _, _, _, _, _, _, _, _, _, _, _, _, _, _, _, _, _, _, _, _, _, by rw [HJ.out]; rfl⟩
      · have HST := Aside0.mk (HK2.out.trans (run_go s i hlt hb))
        go_wp2_with (first | (go_at_call 102; refine (digit_calls _ _ hb _).mono ?_; rintro e w1 ⟨rfl, ⟨n1, rfl⟩⟩))
        go_step3
        exact ⟨i + 1, by omega, by omega, HST.out, HP.out.drewN _, _, _, _, _, _, _, _, _, _, _, _, _, _, _, _, _, _, _, _, _, _, _, _, _, _, _, _, _, _, _, _, _, _, _, _, _, _, _, _, _, _, _, _, _, _, _, _, _, _, _, _, _, _, _, _, _, _, _, _, _, _, _, _, _, _, _, rfl⟩
    · have hd : decide (i < s.size) = false := decide_eq_false hlt
      have HJ := Aside0.mk (HK2.out.trans (run_end s i hlt))
      have HDT : Aside0 (dotAt s (runTo s i) = false) := ⟨by rw [HJ.out]; unfold dotAt; rw [dif_neg hlt]⟩
      have HPW : Aside0 (ByteArray.empty = plW s i) := ⟨by unfold plW; rw [HJ.out]; simp⟩
      go_wp2_with (fail)
      go_step3
      exact ⟨HDT.out, plw_to HPW.out (HP.out.setW HG.out _), _, _, _, _, _, _, _, _, _, _, _, _, _, _, _, _, _, _, _, _, _, _, _, _, _, _, _, _, _, _, _, _, _, _, _, _, _, _, _, _, _, _, _, _, _, _, _, _, _, _, _, _, _, _, _, _, _, _, _, _, _, _, _, _, _, _, by rw [HJ.out]⟩
  · intro n l a w' hn hJ
    rcases l with _ | l
    · obtain ⟨k, hk0, hk1, hk2, hP, u2, u3, u8, u9, u10, u11, u12, u13, u14, u15, u16, u17, u18, u19, u20, u21, u22, u23, u24, u25, u26, u27, u28, u29, u30, u31, u32, u33, u34, u35, u36, u37, u38, u39, u40, u41, u42, u43, u44, u45, u46, u47, u48, u49, u50, u51, u52, u53, u54, u55, u56, u57, u58, u59, u60, u61, u62, u63, u64, u65, u66, u67, u68, u69, u70, u71, rfl⟩ := hJ
      refine ⟨_, rfl, ?_⟩
      have hn2 : 2 * (s.size + 1) + (s.size - k) = n := hn
      have HN := Aside0.mk hn2
      clear hn hn2
      have HP := Aside0.mk hP
      have HK2 := Aside0.mk hk2
      clear hP hk2 HR hg
      have y0 := blk_cell HP.out.fnd 0; have y1 := blk_cell HP.out.fnd 1; have y2 := blk_cell HP.out.fnd 2; have y3 := blk_cell HP.out.fnd 3; simp at y0 y1 y2 y3; have e0 := blk_frozen HP.out.fnd 0; have e1 := blk_frozen HP.out.fnd 1; have e2 := blk_frozen HP.out.fnd 2; have e3 := blk_frozen HP.out.fnd 3
      by_cases hlt : k < s.size
      · have hd : decide (k < s.size) = true := decide_eq_true hlt
        cases hb : dgI ((s[k].toNat : Nat) : Int)
        · have HJ := Aside0.mk (HK2.out.trans (run_stop s k hlt hb))
          cases hdot : ((s[k].toNat : Nat) : Int) == 46
          · have HDT : Aside0 (dotAt s (runTo s i) = false) := ⟨by rw [HJ.out]; unfold dotAt; rw [dif_pos hlt]; exact hdot⟩
            have HPW : Aside0 (s.extract i k = plW s i) := ⟨by unfold plW; rw [HJ.out]⟩
            go_wp2_with (first | (go_at_call 102; refine (digit_calls _ _ hb _).mono ?_; rintro e w1 ⟨rfl, ⟨n1, rfl⟩⟩))
            go_step3
            exact ⟨⟨HDT.out, plw_to HPW.out ((HP.out.drewN _).setW HG.out _), _, _, _, _, _, _, _, _, _, _, _, _, _, _, _, _, _, _, _, _, _, _, _, _, _, _, _, _, _, _, _, _, _, _, _, _, _, _, _, _, _, _, _, _, _, _, _, _, _, _, _, _, _, _, _, _, _, _, _, _, _, _, _, _, _, _, by rw [HJ.out]⟩, by rw [← HN.out]; simp [plM, intOf] <;> omega⟩
          · have HDT : Aside0 (dotAt s (runTo s i) = true) := ⟨by rw [HJ.out]; unfold dotAt; rw [dif_pos hlt]; exact hdot⟩
            have HPW : Aside0 (s.extract i k = plW s i) := ⟨by unfold plW; rw [HJ.out]⟩
            go_wp2_with (first | (go_at_call 102; refine (digit_calls _ _ hb _).mono ?_; rintro e w1 ⟨rfl, ⟨n1, rfl⟩⟩))
            go_step3
            exact ⟨⟨k + 1, Nat.le_of_eq (by rw [HJ.out]), by omega, HDT.out, by rw [HJ.out], plw_to HPW.out ((HP.out.drewN _).setW HG.out _), _, _, _, _, _, _, _, _, _, _, _, _, _, _, _, _, _, _, _, _, _, _, _, _, _, _, _, _, _, _, _, _, _, _, _, _, _, _, _, _, _, _, _, _, _, _, _, _, _, _, _, _, _, _, _, _, _, _, _, _, _, _, _, _, _, _, by rw [HJ.out]; rfl⟩, by rw [← HN.out]; simp [plM, intOf] <;> omega⟩
        · have HST := Aside0.mk (HK2.out.trans (run_go s k hlt hb))
          go_wp2_with (first | (go_at_call 102; refine (digit_calls _ _ hb _).mono ?_; rintro e w1 ⟨rfl, ⟨n1, rfl⟩⟩))
          go_step3
          exact ⟨⟨k + 1, by omega, by omega, HST.out, HP.out.drewN _, _, _, _, _, _, _, _, _, _, _, _, _, _, _, _, _, _, _, _, _, _, _, _, _, _, _, _, _, _, _, _, _, _, _, _, _, _, _, _, _, _, _, _, _, _, _, _, _, _, _, _, _, _, _, _, _, _, _, _, _, _, _, _, _, _, _, rfl⟩, by rw [← HN.out]; simp [plM, intOf] <;> omega⟩
      · have hd : decide (k < s.size) = false := decide_eq_false hlt
        have HJ := Aside0.mk (HK2.out.trans (run_end s k hlt))
        have HDT : Aside0 (dotAt s (runTo s i) = false) := ⟨by rw [HJ.out]; unfold dotAt; rw [dif_neg hlt]⟩
        have HPW : Aside0 (s.extract i k = plW s i) := ⟨by unfold plW; rw [HJ.out]⟩
        go_wp2_with (fail)
        go_step3
        exact ⟨⟨HDT.out, plw_to HPW.out (HP.out.setW HG.out _), _, _, _, _, _, _, _, _, _, _, _, _, _, _, _, _, _, _, _, _, _, _, _, _, _, _, _, _, _, _, _, _, _, _, _, _, _, _, _, _, _, _, _, _, _, _, _, _, _, _, _, _, _, _, _, _, _, _, _, _, _, _, _, _, _, _, by rw [HJ.out]⟩, by rw [← HN.out]; simp [plM, intOf] <;> omega⟩
    · rcases l with _ | l
      · obtain ⟨k, hk0, hk1, hdt, hk2, hP, u2, u3, u8, u9, u10, u11, u12, u13, u14, u15, u16, u17, u18, u19, u20, u21, u22, u23, u24, u25, u26, u27, u28, u29, u30, u31, u32, u33, u34, u35, u36, u37, u38, u39, u40, u41, u42, u43, u44, u45, u46, u47, u48, u49, u50, u51, u52, u53, u54, u55, u56, u57, u58, u59, u60, u61, u62, u63, u64, u65, u66, u67, u68, u69, u70, u71, rfl⟩ := hJ
        refine ⟨_, rfl, ?_⟩
        have hn2 : 1 * (s.size + 1) + (s.size - k) = n := hn
        have HN := Aside0.mk hn2
        clear hn hn2
        have HP := Aside0.mk hP
        have HK2 := Aside0.mk hk2
        have HDT := Aside0.mk hdt
        clear hP hk2 hg hdt
        refine wp_seq_k (fun K hK => wp_skip (hK _ _ ?_))
        clear hK K
        have y0 := blk_cell HP.out.fnd 0; have y1 := blk_cell HP.out.fnd 1; have y2 := blk_cell HP.out.fnd 2; have y3 := blk_cell HP.out.fnd 3; simp at y0 y1 y2 y3; have e0 := blk_frozen HP.out.fnd 0; have e1 := blk_frozen HP.out.fnd 1; have e2 := blk_frozen HP.out.fnd 2; have e3 := blk_frozen HP.out.fnd 3
        have hj : runTo s i ≤ s.size := run_le s i hi
        obtain ⟨j, hjj⟩ : ∃ j : Nat, runTo s i = j := ⟨_, rfl⟩
        have HJJ := Aside0.mk hjj
        rw [hjj] at hk0 hj HK2 HDT ⊢
        clear hjj
        obtain ⟨p, hp⟩ : ∃ p : Nat, j + 1 = p := ⟨_, rfl⟩
        rw [hp] at hk0 HK2 ⊢
        have hpj : j < p := by omega
        have HPJ := Aside0.mk hp
        clear hp
        by_cases hlt : k < s.size
        · have hd : decide (k < s.size) = true := decide_eq_true hlt
          cases hb : dgI ((s[k].toNat : Nat) : Int)
          · have HKE := Aside0.mk (HK2.out.trans (run_stop s k hlt hb))
            go_wp2_with (first | (go_at_call 102; refine (digit_calls _ _ hb _).mono ?_; rintro e w1 ⟨rfl, ⟨n1, rfl⟩⟩))
            go_step3
            obtain ⟨W2, hW2⟩ : ∃ W2 : World, W2 = (w'.drewN n1).setCell ⟨g + 1, 2, none⟩ (.string (s.extract p k)) := ⟨_, rfl⟩
            have HP2 : Aside0 (PlW w g (plW s i) (s.extract p k) W2) := ⟨by rw [hW2]; exact (HP.out.drewN n1).setF HG.out _⟩
            rw [← hW2]
            clear hW2 hb hd
            clear y0 y1 y2 y3 e0 e1 e2 e3 HP
            have HP := HP2
            clear HP2
            have HF : Aside0 (plF s i = s.extract p k) := ⟨by unfold plF; rw [HJJ.out, if_pos HDT.out, HPJ.out, HKE.out]⟩
            have HE : Aside0 (plE s i = k) := ⟨by unfold plE; rw [HJJ.out, if_pos HDT.out, HPJ.out, HKE.out]⟩
            have HW : Aside0 (plW s i = plW s i) := ⟨rfl⟩
            have hjk : ¬ k < j := by omega
            have hjd : decide (k < j) = false := decide_eq_false hjk
            generalize s.extract p k = fr at *
            generalize plW s i = wh at *
            have y0 := blk_cell HP.out.fnd 0; have y1 := blk_cell HP.out.fnd 1; have y2 := blk_cell HP.out.fnd 2; have y3 := blk_cell HP.out.fnd 3; simp at y0 y1 y2 y3; have e0 := blk_frozen HP.out.fnd 0; have e1 := blk_frozen HP.out.fnd 1; have e2 := blk_frozen HP.out.fnd 2; have e3 := blk_frozen HP.out.fnd 3
            have z0 := blk_cell HP.out.res 0; have z1 := blk_cell HP.out.res 1; have z2 := blk_cell HP.out.res 2; have z3 := blk_cell HP.out.res 3; simp at z0 z1 z2 z3; have q0 := blk_frozen HP.out.res 0; have q1 := blk_frozen HP.out.res 1; have q2 := blk_frozen HP.out.res 2; have q3 := blk_frozen HP.out.res 3
            have hq := HR.out
            rw [HW.out, HF.out, HE.out] at hq
            clear HR HW HF HE
            by_cases hw : wh.toList = []
            · have hw1 : (wh.toList == ([] : List UInt8)) = true := by rw [hw]; rfl
              have hw2 : wh.toList.isEmpty = true := by rw [hw]; rfl
              by_cases hf : fr.toList = []
              · have hf1 : (fr.toList == ([] : List UInt8)) = true := by rw [hf]; rfl
                have hf2 : fr.toList.isEmpty = true := by rw [hf]; rfl
                rw [if_pos ⟨hw, hf⟩] at hq
                have hq := Option.some.inj hq
                simp only [Prod.mk.injEq] at hq
                obtain ⟨rfl, rfl, rfl, rfl⟩ := hq
                clear hw hf
                go_wp2
                simp only [Pr.jumps]
                refine bodyPost_ret (results_cell_row rfl _ _ g 132 #[.bool false, .string (⟨#[]⟩ : ByteArray), .string (⟨#[]⟩ : ByteArray), .int .i64 0] (0, 0) _ rfl (by repeat (first | exact HP.out.res | refine blk_put (cs := #[.bool false, .string (⟨#[]⟩ : ByteArray), .string (⟨#[]⟩ : ByteArray), .int .i64 0]) ?_ _ _ rfl | refine blk_drewN ?_ _ | refine blk_drew ?_)) Tryd.underlying132 rfl (by kernel_rfl)) rfl ⟨rfl, ?_⟩
                repeat (first | exact HP.out.bel | (refine below_set ?_ (by rw [HG.out]; exact Nat.le_refl _)) | apply pw_below_drewN | apply below_drew1)
              · have hf1 : (fr.toList == ([] : List UInt8)) = false := beq_eq_false_iff_ne.mpr hf
                have hf2 : fr.toList.isEmpty = false := by cases h : fr.toList.isEmpty; rfl; exact absurd (List.isEmpty_iff.1 h) hf
                rw [if_neg (fun h => hf h.2)] at hq
                have hq := Option.some.inj hq
                simp only [Prod.mk.injEq] at hq
                obtain ⟨rfl, rfl, rfl, rfl⟩ := hq
                clear hw hf
                go_wp2
                simp only [Pr.jumps]
                refine bodyPost_ret (results_cell_row rfl _ _ g 132 #[.bool false, .string wh, .string fr, .int .i64 _] (0, 0) _ rfl (blk_put (cs := #[.bool false, .string wh, .string fr, .int .i64 0]) (blk_put (cs := #[.bool false, .string wh, .string (⟨#[]⟩ : ByteArray), .int .i64 0]) (blk_put (cs := #[.bool false, .string (⟨#[]⟩ : ByteArray), .string (⟨#[]⟩ : ByteArray), .int .i64 0]) (blk_put (cs := #[.bool false, .string (⟨#[]⟩ : ByteArray), .string (⟨#[]⟩ : ByteArray), .int .i64 0]) (by repeat (first | exact HP.out.res | refine blk_far ?_ (show g ≠ g + 1 by omega) _ | refine blk_drewN ?_ _ | refine blk_drew ?_)) 0 _ rfl) 1 _ rfl) 2 _ rfl) 3 _ rfl) Tryd.underlying132 rfl (by kernel_rfl)) rfl ⟨rfl, ?_⟩
                repeat (first | exact HP.out.bel | (refine below_set ?_ (by rw [HG.out]; first | exact Nat.le_refl _ | exact Nat.le_succ _)) | apply pw_below_drewN | apply below_drew1)
            · have hw1 : (wh.toList == ([] : List UInt8)) = false := beq_eq_false_iff_ne.mpr hw
              have hw2 : wh.toList.isEmpty = false := by cases h : wh.toList.isEmpty; rfl; exact absurd (List.isEmpty_iff.1 h) hw
              rw [if_neg (fun h => hw h.1)] at hq
              have hq := Option.some.inj hq
              simp only [Prod.mk.injEq] at hq
              obtain ⟨rfl, rfl, rfl, rfl⟩ := hq
              clear hw
              go_wp2
              simp only [Pr.jumps]
              refine bodyPost_ret (results_cell_row rfl _ _ g 132 #[.bool false, .string wh, .string fr, .int .i64 _] (0, 0) _ rfl (blk_put (cs := #[.bool false, .string wh, .string fr, .int .i64 0]) (blk_put (cs := #[.bool false, .string wh, .string (⟨#[]⟩ : ByteArray), .int .i64 0]) (blk_put (cs := #[.bool false, .string (⟨#[]⟩ : ByteArray), .string (⟨#[]⟩ : ByteArray), .int .i64 0]) (blk_put (cs := #[.bool false, .string (⟨#[]⟩ : ByteArray), .string (⟨#[]⟩ : ByteArray), .int .i64 0]) (by repeat (first | exact HP.out.res | refine blk_far ?_ (show g ≠ g + 1 by omega) _ | refine blk_drewN ?_ _ | refine blk_drew ?_)) 0 _ rfl) 1 _ rfl) 2 _ rfl) 3 _ rfl) Tryd.underlying132 rfl (by kernel_rfl)) rfl ⟨rfl, ?_⟩
              repeat (first | exact HP.out.bel | (refine below_set ?_ (by rw [HG.out]; first | exact Nat.le_refl _ | exact Nat.le_succ _)) | apply pw_below_drewN | apply below_drew1)
          · have HST := Aside0.mk (HK2.out.trans (run_go s k hlt hb))
            go_wp2_with (first | (go_at_call 102; refine (digit_calls _ _ hb _).mono ?_; rintro e w1 ⟨rfl, ⟨n1, rfl⟩⟩))
            go_step3
            exact ⟨⟨k + 1, by rw [HJJ.out, HPJ.out]; omega, by omega, by rw [HJJ.out]; exact HDT.out, by rw [HJJ.out, HPJ.out]; exact HST.out, HP.out.drewN _, _, _, _, _, _, _, _, _, _, _, _, _, _, _, _, _, _, _, _, _, _, _, _, _, _, _, _, _, _, _, _, _, _, _, _, _, _, _, _, _, _, _, _, _, _, _, _, _, _, _, _, _, _, _, _, _, _, _, _, _, _, _, _, _, _, _, by rw [HJJ.out, HPJ.out]; rfl⟩, by rw [← HN.out]; simp [plM, intOf] <;> omega⟩
        · have hd : decide (k < s.size) = false := decide_eq_false hlt
          have HKE := Aside0.mk (HK2.out.trans (run_end s k hlt))
          go_wp2_with (fail)
          go_step3
          obtain ⟨W2, hW2⟩ : ∃ W2 : World, W2 = w'.setCell ⟨g + 1, 2, none⟩ (.string (s.extract p k)) := ⟨_, rfl⟩
          have HP2 : Aside0 (PlW w g (plW s i) (s.extract p k) W2) := ⟨by rw [hW2]; exact HP.out.setF HG.out _⟩
          rw [← hW2]
          clear hW2 hlt hd
          clear y0 y1 y2 y3 e0 e1 e2 e3 HP
          have HP := HP2
          clear HP2
          have HF : Aside0 (plF s i = s.extract p k) := ⟨by unfold plF; rw [HJJ.out, if_pos HDT.out, HPJ.out, HKE.out]⟩
          have HE : Aside0 (plE s i = k) := ⟨by unfold plE; rw [HJJ.out, if_pos HDT.out, HPJ.out, HKE.out]⟩
          have HW : Aside0 (plW s i = plW s i) := ⟨rfl⟩
          have hjk : ¬ k < j := by omega
          have hjd : decide (k < j) = false := decide_eq_false hjk
          generalize s.extract p k = fr at *
          generalize plW s i = wh at *
          have y0 := blk_cell HP.out.fnd 0; have y1 := blk_cell HP.out.fnd 1; have y2 := blk_cell HP.out.fnd 2; have y3 := blk_cell HP.out.fnd 3; simp at y0 y1 y2 y3; have e0 := blk_frozen HP.out.fnd 0; have e1 := blk_frozen HP.out.fnd 1; have e2 := blk_frozen HP.out.fnd 2; have e3 := blk_frozen HP.out.fnd 3
          have z0 := blk_cell HP.out.res 0; have z1 := blk_cell HP.out.res 1; have z2 := blk_cell HP.out.res 2; have z3 := blk_cell HP.out.res 3; simp at z0 z1 z2 z3; have q0 := blk_frozen HP.out.res 0; have q1 := blk_frozen HP.out.res 1; have q2 := blk_frozen HP.out.res 2; have q3 := blk_frozen HP.out.res 3
          have hq := HR.out
          rw [HW.out, HF.out, HE.out] at hq
          clear HR HW HF HE
          by_cases hw : wh.toList = []
          · have hw1 : (wh.toList == ([] : List UInt8)) = true := by rw [hw]; rfl
            have hw2 : wh.toList.isEmpty = true := by rw [hw]; rfl
            by_cases hf : fr.toList = []
            · have hf1 : (fr.toList == ([] : List UInt8)) = true := by rw [hf]; rfl
              have hf2 : fr.toList.isEmpty = true := by rw [hf]; rfl
              rw [if_pos ⟨hw, hf⟩] at hq
              have hq := Option.some.inj hq
              simp only [Prod.mk.injEq] at hq
              obtain ⟨rfl, rfl, rfl, rfl⟩ := hq
              clear hw hf
              go_wp2
              simp only [Pr.jumps]
              refine bodyPost_ret (results_cell_row rfl _ _ g 132 #[.bool false, .string (⟨#[]⟩ : ByteArray), .string (⟨#[]⟩ : ByteArray), .int .i64 0] (0, 0) _ rfl (by repeat (first | exact HP.out.res | refine blk_put (cs := #[.bool false, .string (⟨#[]⟩ : ByteArray), .string (⟨#[]⟩ : ByteArray), .int .i64 0]) ?_ _ _ rfl | refine blk_drewN ?_ _ | refine blk_drew ?_)) Tryd.underlying132 rfl (by kernel_rfl)) rfl ⟨rfl, ?_⟩
              repeat (first | exact HP.out.bel | (refine below_set ?_ (by rw [HG.out]; exact Nat.le_refl _)) | apply pw_below_drewN | apply below_drew1)
            · have hf1 : (fr.toList == ([] : List UInt8)) = false := beq_eq_false_iff_ne.mpr hf
              have hf2 : fr.toList.isEmpty = false := by cases h : fr.toList.isEmpty; rfl; exact absurd (List.isEmpty_iff.1 h) hf
              rw [if_neg (fun h => hf h.2)] at hq
              have hq := Option.some.inj hq
              simp only [Prod.mk.injEq] at hq
              obtain ⟨rfl, rfl, rfl, rfl⟩ := hq
              clear hw hf
              go_wp2
              simp only [Pr.jumps]
              refine bodyPost_ret (results_cell_row rfl _ _ g 132 #[.bool false, .string wh, .string fr, .int .i64 _] (0, 0) _ rfl (blk_put (cs := #[.bool false, .string wh, .string fr, .int .i64 0]) (blk_put (cs := #[.bool false, .string wh, .string (⟨#[]⟩ : ByteArray), .int .i64 0]) (blk_put (cs := #[.bool false, .string (⟨#[]⟩ : ByteArray), .string (⟨#[]⟩ : ByteArray), .int .i64 0]) (blk_put (cs := #[.bool false, .string (⟨#[]⟩ : ByteArray), .string (⟨#[]⟩ : ByteArray), .int .i64 0]) (by repeat (first | exact HP.out.res | refine blk_far ?_ (show g ≠ g + 1 by omega) _ | refine blk_drewN ?_ _ | refine blk_drew ?_)) 0 _ rfl) 1 _ rfl) 2 _ rfl) 3 _ rfl) Tryd.underlying132 rfl (by kernel_rfl)) rfl ⟨rfl, ?_⟩
              repeat (first | exact HP.out.bel | (refine below_set ?_ (by rw [HG.out]; first | exact Nat.le_refl _ | exact Nat.le_succ _)) | apply pw_below_drewN | apply below_drew1)
          · have hw1 : (wh.toList == ([] : List UInt8)) = false := beq_eq_false_iff_ne.mpr hw
            have hw2 : wh.toList.isEmpty = false := by cases h : wh.toList.isEmpty; rfl; exact absurd (List.isEmpty_iff.1 h) hw
            rw [if_neg (fun h => hw h.1)] at hq
            have hq := Option.some.inj hq
            simp only [Prod.mk.injEq] at hq
            obtain ⟨rfl, rfl, rfl, rfl⟩ := hq
            clear hw
            go_wp2
            simp only [Pr.jumps]
            refine bodyPost_ret (results_cell_row rfl _ _ g 132 #[.bool false, .string wh, .string fr, .int .i64 _] (0, 0) _ rfl (blk_put (cs := #[.bool false, .string wh, .string fr, .int .i64 0]) (blk_put (cs := #[.bool false, .string wh, .string (⟨#[]⟩ : ByteArray), .int .i64 0]) (blk_put (cs := #[.bool false, .string (⟨#[]⟩ : ByteArray), .string (⟨#[]⟩ : ByteArray), .int .i64 0]) (blk_put (cs := #[.bool false, .string (⟨#[]⟩ : ByteArray), .string (⟨#[]⟩ : ByteArray), .int .i64 0]) (by repeat (first | exact HP.out.res | refine blk_far ?_ (show g ≠ g + 1 by omega) _ | refine blk_drewN ?_ _ | refine blk_drew ?_)) 0 _ rfl) 1 _ rfl) 2 _ rfl) 3 _ rfl) Tryd.underlying132 rfl (by kernel_rfl)) rfl ⟨rfl, ?_⟩
            repeat (first | exact HP.out.bel | (refine below_set ?_ (by rw [HG.out]; first | exact Nat.le_refl _ | exact Nat.le_succ _)) | apply pw_below_drewN | apply below_drew1)
      · rcases l with _ | l
        · obtain ⟨hdt, hP, u2, u3, u8, u9, u10, u11, u12, u13, u14, u15, u16, u17, u18, u19, u20, u21, u22, u23, u24, u25, u26, u27, u28, u29, u30, u31, u32, u33, u34, u35, u36, u37, u38, u39, u40, u41, u42, u43, u44, u45, u46, u47, u48, u49, u50, u51, u52, u53, u54, u55, u56, u57, u58, u59, u60, u61, u62, u63, u64, u65, u66, u67, u68, u69, u70, u71, rfl⟩ := hJ
          refine ⟨_, rfl, ?_⟩
          have HP := Aside0.mk hP
          have HDT := Aside0.mk hdt
          clear hP hg hdt hn
          refine wp_seq_k (fun K hK => wp_skip (hK _ _ ?_))
          clear hK K
          have hj : runTo s i ≤ s.size := run_le s i hi
          obtain ⟨j, hjj⟩ : ∃ j : Nat, runTo s i = j := ⟨_, rfl⟩
          have HJJ := Aside0.mk hjj
          rw [hjj] at hj HDT ⊢
          clear hjj
          have HF : Aside0 (plF s i = ⟨#[]⟩) := ⟨by unfold plF; rw [HJJ.out, if_neg (by rw [HDT.out]; decide)]⟩
          have HE : Aside0 (plE s i = j) := ⟨by unfold plE; rw [HJJ.out, if_neg (by rw [HDT.out]; decide)]⟩
          have HW : Aside0 (plW s i = plW s i) := ⟨rfl⟩
          have hjk : ¬ j < j := by omega
          obtain ⟨fr, hfr⟩ : ∃ fr : ByteArray, (⟨#[]⟩ : ByteArray) = fr := ⟨_, rfl⟩
          rw [hfr] at HF HP
          have HFR := Aside0.mk hfr
          clear hfr
          generalize plW s i = wh at *
          have y0 := blk_cell HP.out.fnd 0; have y1 := blk_cell HP.out.fnd 1; have y2 := blk_cell HP.out.fnd 2; have y3 := blk_cell HP.out.fnd 3; simp at y0 y1 y2 y3; have e0 := blk_frozen HP.out.fnd 0; have e1 := blk_frozen HP.out.fnd 1; have e2 := blk_frozen HP.out.fnd 2; have e3 := blk_frozen HP.out.fnd 3
          have z0 := blk_cell HP.out.res 0; have z1 := blk_cell HP.out.res 1; have z2 := blk_cell HP.out.res 2; have z3 := blk_cell HP.out.res 3; simp at z0 z1 z2 z3; have q0 := blk_frozen HP.out.res 0; have q1 := blk_frozen HP.out.res 1; have q2 := blk_frozen HP.out.res 2; have q3 := blk_frozen HP.out.res 3
          have hq := HR.out
          rw [HW.out, HF.out, HE.out] at hq
          clear HR HW HF HE
          by_cases hw : wh.toList = []
          · have hw1 : (wh.toList == ([] : List UInt8)) = true := by rw [hw]; rfl
            have hw2 : wh.toList.isEmpty = true := by rw [hw]; rfl
            by_cases hf : fr.toList = []
            · have hf1 : (fr.toList == ([] : List UInt8)) = true := by rw [hf]; rfl
              have hf2 : fr.toList.isEmpty = true := by rw [hf]; rfl
              rw [if_pos ⟨hw, hf⟩] at hq
              have hq := Option.some.inj hq
              simp only [Prod.mk.injEq] at hq
              obtain ⟨rfl, rfl, rfl, rfl⟩ := hq
              clear hw hf
              go_wp2
              simp only [Pr.jumps]
              refine bodyPost_ret (results_cell_row rfl _ _ g 132 #[.bool false, .string (⟨#[]⟩ : ByteArray), .string (⟨#[]⟩ : ByteArray), .int .i64 0] (0, 0) _ rfl (by repeat (first | exact HP.out.res | refine blk_put (cs := #[.bool false, .string (⟨#[]⟩ : ByteArray), .string (⟨#[]⟩ : ByteArray), .int .i64 0]) ?_ _ _ rfl | refine blk_drewN ?_ _ | refine blk_drew ?_)) Tryd.underlying132 rfl (by kernel_rfl)) rfl ⟨rfl, ?_⟩
              repeat (first | exact HP.out.bel | (refine below_set ?_ (by rw [HG.out]; exact Nat.le_refl _)) | apply pw_below_drewN | apply below_drew1)
            · have hf1 : (fr.toList == ([] : List UInt8)) = false := beq_eq_false_iff_ne.mpr hf
              have hf2 : fr.toList.isEmpty = false := by cases h : fr.toList.isEmpty; rfl; exact absurd (List.isEmpty_iff.1 h) hf
              rw [if_neg (fun h => hf h.2)] at hq
              have hq := Option.some.inj hq
              simp only [Prod.mk.injEq] at hq
              obtain ⟨rfl, rfl, rfl, rfl⟩ := hq
              clear hw hf
              go_wp2
              simp only [Pr.jumps]
              refine bodyPost_ret (results_cell_row rfl _ _ g 132 #[.bool false, .string wh, .string fr, .int .i64 _] (0, 0) _ rfl (blk_put (cs := #[.bool false, .string wh, .string fr, .int .i64 0]) (blk_put (cs := #[.bool false, .string wh, .string (⟨#[]⟩ : ByteArray), .int .i64 0]) (blk_put (cs := #[.bool false, .string (⟨#[]⟩ : ByteArray), .string (⟨#[]⟩ : ByteArray), .int .i64 0]) (blk_put (cs := #[.bool false, .string (⟨#[]⟩ : ByteArray), .string (⟨#[]⟩ : ByteArray), .int .i64 0]) (by repeat (first | exact HP.out.res | refine blk_far ?_ (show g ≠ g + 1 by omega) _ | refine blk_drewN ?_ _ | refine blk_drew ?_)) 0 _ rfl) 1 _ rfl) 2 _ rfl) 3 _ rfl) Tryd.underlying132 rfl (by kernel_rfl)) rfl ⟨rfl, ?_⟩
              repeat (first | exact HP.out.bel | (refine below_set ?_ (by rw [HG.out]; first | exact Nat.le_refl _ | exact Nat.le_succ _)) | apply pw_below_drewN | apply below_drew1)
          · have hw1 : (wh.toList == ([] : List UInt8)) = false := beq_eq_false_iff_ne.mpr hw
            have hw2 : wh.toList.isEmpty = false := by cases h : wh.toList.isEmpty; rfl; exact absurd (List.isEmpty_iff.1 h) hw
            rw [if_neg (fun h => hw h.1)] at hq
            have hq := Option.some.inj hq
            simp only [Prod.mk.injEq] at hq
            obtain ⟨rfl, rfl, rfl, rfl⟩ := hq
            clear hw
            go_wp2
            simp only [Pr.jumps]
            refine bodyPost_ret (results_cell_row rfl _ _ g 132 #[.bool false, .string wh, .string fr, .int .i64 _] (0, 0) _ rfl (blk_put (cs := #[.bool false, .string wh, .string fr, .int .i64 0]) (blk_put (cs := #[.bool false, .string wh, .string (⟨#[]⟩ : ByteArray), .int .i64 0]) (blk_put (cs := #[.bool false, .string (⟨#[]⟩ : ByteArray), .string (⟨#[]⟩ : ByteArray), .int .i64 0]) (blk_put (cs := #[.bool false, .string (⟨#[]⟩ : ByteArray), .string (⟨#[]⟩ : ByteArray), .int .i64 0]) (by repeat (first | exact HP.out.res | refine blk_far ?_ (show g ≠ g + 1 by omega) _ | refine blk_drewN ?_ _ | refine blk_drew ?_)) 0 _ rfl) 1 _ rfl) 2 _ rfl) 3 _ rfl) Tryd.underlying132 rfl (by kernel_rfl)) rfl ⟨rfl, ?_⟩
            repeat (first | exact HP.out.bel | (refine below_set ?_ (by rw [HG.out]; first | exact Nat.le_refl _ | exact Nat.le_succ _)) | apply pw_below_drewN | apply below_drew1)
        · exact hJ.elim
theorem numeral_plain.calls (a0 : ByteArray) (a1 : Int) (r1 : Bool) (r2 r3 : ByteArray) (r4 : Int) (w : World) (h : numeral_plain.f a0 a1 = some (r1, r2, r3, r4)) :
    Calls Tryd.prog 86 #[.string a0, .int .i64 a1] w fun e w' => e = .returned (.agg #[.bool r1, .string r2, .string r3, .int .i64 r4]) ∧ Below w.heap.size w w' := by
  unfold numeral_plain.f at h
  by_cases hc : 0 ≤ a1 ∧ a1 ≤ (a0.size : Int) ∧ a0.size ≤ 140737488351232
  · rw [if_pos hc] at h
    obtain ⟨n, rfl⟩ := Int.eq_ofNat_of_zero_le hc.1
    exact plain_walk a0 n w hc.2.2 (by omega) r1 r2 r3 r4 h
  · rw [if_neg hc] at h; exact absurd h (by simp)
end Go.Proofs.YtnnoegjgaelafaaDoor.Nu
