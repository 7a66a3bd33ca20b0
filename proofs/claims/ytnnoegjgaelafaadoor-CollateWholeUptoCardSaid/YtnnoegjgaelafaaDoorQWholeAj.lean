/- numeral's General: what it answers. By hand. -/
import Derived.Test.YtnnoegjgaelafaaDoorQWholeAi
namespace Go.Proofs.YtnnoegjgaelafaaDoor.Nu
open Go.RowKit Go.Proofs.YtnnoegjgaelafaaDoorW.PrintWords Go.Proofs.YtnnoegjgaelafaaDoorW.PrintLast Go.Proofs.YtnnoegjgaelafaaDoorW.PrintMore
set_option linter.unusedVariables false
set_option linter.unusedSimpArgs false

def tlS (s : ByteArray) : ByteArray := ⟨(Lib.trimLeftB s.data.toList 48).toArray⟩
def trS (s : ByteArray) : ByteArray := ⟨(Lib.trimRightB s.data.toList 48).toArray⟩
theorem dropW_len {p : UInt8 → Bool} : ∀ l : List UInt8, (l.dropWhile p).length ≤ l.length
  | [] => by simp
  | a :: l => by
    rw [List.dropWhile_cons]; split
    · have := dropW_len (p := p) l; simp; omega
    · exact Nat.le_refl _
theorem tlS_size (s : ByteArray) : (tlS s).size ≤ s.size := by
  show (Lib.trimLeftB s.data.toList 48).toArray.size ≤ s.data.size
  rw [List.size_toArray, ← Array.length_toList]; exact dropW_len _
theorem trS_size (s : ByteArray) : (trS s).size ≤ s.size := by
  show (Lib.trimRightB s.data.toList 48).toArray.size ≤ s.data.size
  rw [List.size_toArray, ← Array.length_toList]
  unfold Lib.trimRightB
  rw [List.length_reverse]
  exact Nat.le_trans (dropW_len _) (by rw [List.length_reverse]; exact Nat.le_refl _)
theorem tl_f (s : ByteArray) : strings_TrimLeft.f s (⟨#[48]⟩ : ByteArray) = some (tlS s) := by unfold strings_TrimLeft.f; rw [if_pos rfl]; rfl
theorem tr_f (s : ByteArray) (h : s.size ≤ 9223372036854775807) : strings_TrimRight.f s (⟨#[48]⟩ : ByteArray) = some (trS s) := by unfold strings_TrimRight.f; rw [if_pos ⟨rfl, h⟩]; rfl
/-- A number's digits and exponent. -/
def digF (w f : ByteArray) (e : Int) : ByteArray × Int :=
  if (tlS w).toList = [] then (if (trS (tlS f)).toList = [] then ((⟨#[]⟩ : ByteArray), 0) else (trS (tlS f), ((tlS f).size : Int) - (f.size : Int) + e))
  else (if (trS (tlS w ++ f)).toList = [] then ((⟨#[]⟩ : ByteArray), 0) else (trS (tlS w ++ f), ((tlS w).size : Int) + e))
theorem dig_f (w f : ByteArray) (e : Int) (hw : w.size ≤ 140737488351232) (hf : f.size ≤ 140737488351232) (he : -1099511627776 ≤ e ∧ e ≤ 1099511627776) : numeral_digits.f w f e = some (digF w f e) := by
  have h1 := tlS_size w
  have h2 := tlS_size f
  have hsz : (tlS w ++ f).size = (tlS w).size + f.size := ByteArray.size_append
  unfold numeral_digits.f digF
  rw [tl_f w, tl_f f]
  simp only [Option.bind_some]
  rw [tr_f (tlS f) (by omega), tr_f (tlS w ++ f) (by omega)]
  simp only [Option.bind_some]
  have w1 : wrap64 (wrap64 (((tlS f).size : Int) - (f.size : Int)) + e) = ((tlS f).size : Int) - (f.size : Int) + e := by
    have : wrap64 (((tlS f).size : Int) - (f.size : Int)) = ((tlS f).size : Int) - (f.size : Int) := wr_id (by omega) (by omega)
    rw [this]; unfold wrap64; omega
  have w2 : wrap64 (((tlS w).size : Int) + e) = ((tlS w).size : Int) + e := by unfold wrap64; omega
  rw [w1, w2, if_pos (by omega : (tlS w).size + f.size ≤ 9223372036854775807)]
  by_cases a : (tlS w).toList = []
  · rw [if_pos a, if_pos a]
    by_cases b : (trS (tlS f)).toList = []
    · rw [if_pos b, if_pos b]
    · rw [if_neg b, if_neg b]
  · rw [if_neg a, if_neg a]
    by_cases b : (trS (tlS w ++ f)).toList = []
    · rw [if_pos b, if_pos b]
    · rw [if_neg b, if_neg b]
def wdG (m : Nat) : ByteArray := if m = 0 then ⟨#[105, 110, 102, 105, 110, 105, 116, 121]⟩ else if m = 1 then ⟨#[105, 110, 102]⟩ else ⟨#[110, 97, 110]⟩
theorem wdG_size (m : Nat) : (wdG m).size ≤ 100 := by unfold wdG; split; decide; split <;> decide
def genI (s : ByteArray) : Nat := if atB s (bl0 s) 45 || atB s (bl0 s) 43 then bl0 s + 1 else bl0 s
theorem genI_le (s : ByteArray) : genI s ≤ s.size := by
  have h := bl0_le s
  unfold genI
  split
  · rename_i hc
    rw [Bool.or_eq_true] at hc
    rcases hc with hc | hc <;> exact atB_lt hc
  · exact h
/-- What General says of digits. -/
def numF (s : ByteArray) (neg : Bool) (i : Nat) : Int × Bool × ByteArray × Int × Int :=
  if (plW s i).toList = [] ∧ (plF s i).toList = [] then (0, false, ⟨#[]⟩, 0, 0)
  else (3, neg && !(digF (plW s i) (plF s i) (expF s (plE s i)).1).1.toList.isEmpty, (digF (plW s i) (plF s i) (expF s (plE s i)).1).1, (digF (plW s i) (plF s i) (expF s (plE s i)).1).2, (expF s (plE s i)).2)
def genW (neg : Bool) (m : Nat) (i : Nat) : Int × Bool × ByteArray × Int × Int := (if m = 2 then 1 else if neg then 2 else 4, false, ⟨#[]⟩, 0, ((i + (wdG m).size : Nat) : Int))
/-- From word number m on. -/
def genA (s : ByteArray) (neg : Bool) (i : Nat) : Nat → Nat → Int × Bool × ByteArray × Int × Int
  | 0, _ => numF s neg i
  | n + 1, m => if begB s i (wdG m) then genW neg m i else genA s neg i n (m + 1)
def genF (s : ByteArray) : Int × Bool × ByteArray × Int × Int := genA s (atB s (bl0 s) 45) (genI s) 3 0
def genV (r : Int × Bool × ByteArray × Int × Int) : Value := .agg #[.int .u8 r.1, .bool r.2.1, .string r.2.2.1, .int .i64 r.2.2.2.1, .int .i64 r.2.2.2.2]
abbrev gZ : Obj := .cells #[.int .u8 0, .bool false, .string (⟨#[]⟩ : ByteArray), .int .i64 0, .int .i64 0] 107
structure GnW (w w' : World) : Prop where
  res : w'.heap[w.heap.size]? = some gZ
  bel : Below w.heap.size w w'
theorem GnW.drewN {w w' : World} (h : GnW w w') (n : Nat) : GnW w (w'.drewN n) := ⟨h.res, pw_below_drewN h.bel n⟩
theorem GnW.step {w w' w'' : World} (h : GnW w w') (hb : Below w'.heap.size w' w'') : GnW w w'' := ⟨(hb.block _ (blk_lt h.res)).trans h.res, h.bel.trans (hb.mono h.bel.size)⟩
theorem GnW.alloc {w w' : World} (h : GnW w w') (o : Obj) : GnW w (w'.alloc o) := ⟨blk_alloc h.res o, below_alloc h.bel o⟩
theorem GnW.far {w w' : World} (h : GnW w w') {g : Nat} (hne : w.heap.size < g) (k : Nat) (v : Value) : GnW w (w'.setCell ⟨g, k, none⟩ v) := ⟨blk_far h.res (show w.heap.size ≠ g by omega) _, below_set h.bel (Nat.le_of_lt hne)⟩
abbrev set5 (W : World) (g : Nat) (v0 v1 v2 v3 v4 : Value) : World := ((((W.setCell ⟨g, 0, none⟩ v0).setCell ⟨g, 1, none⟩ v1).setCell ⟨g, 2, none⟩ v2).setCell ⟨g, 3, none⟩ v3).setCell ⟨g, 4, none⟩ v4
theorem GnW.five {w W : World} (h : GnW w W) (v0 v1 v2 v3 v4 : Value) : (set5 W w.heap.size v0 v1 v2 v3 v4).heap[w.heap.size]? = some (.cells #[v0, v1, v2, v3, v4] 107 (0, 0)) ∧ Below w.heap.size w (set5 W w.heap.size v0 v1 v2 v3 v4) :=
  ⟨blk_put (cs := #[v0, v1, v2, v3, .int .i64 0]) (blk_put (cs := #[v0, v1, v2, .int .i64 0, .int .i64 0]) (blk_put (cs := #[v0, v1, .string (⟨#[]⟩ : ByteArray), .int .i64 0, .int .i64 0]) (blk_put (cs := #[v0, .bool false, .string (⟨#[]⟩ : ByteArray), .int .i64 0, .int .i64 0]) (blk_put h.res 0 _ rfl) 1 _ rfl) 2 _ rfl) 3 _ rfl) 4 _ rfl,
    below_set (below_set (below_set (below_set (below_set h.bel (Nat.le_refl _)) (Nat.le_refl _)) (Nat.le_refl _)) (Nat.le_refl _)) (Nat.le_refl _)⟩
theorem infoS : (Tryd.prog.info? 9).map (·.size) = some 1 := by kernel_rfl
theorem run_wd (k : Nat) (hk : k < 3) (W : World) : (Instr.index 129 (.agg #[.string (⟨#[105, 110, 102, 105, 110, 105, 116, 121]⟩ : ByteArray), .string (⟨#[105, 110, 102]⟩ : ByteArray), .string (⟨#[110, 97, 110]⟩ : ByteArray)]) (.int .i64 (k : Int))).run Tryd.prog W = .ok (.string (wdG k)) W := by
  have hi := infoS
  cases hq : Tryd.prog.info? 9 with
  | none => rw [hq] at hi; simp at hi
  | some i =>
    rw [hq] at hi
    have hs : i.size = 1 := by simpa using hi
    have hagg : ∀ W, (isAgg 9).run Tryd.prog W = .ok false W := fun W => by unfold isAgg; rw [Sem.run_bind, run_underlying Tryd.underlying9 W]; rfl
    rcases (show k = 0 ∨ k = 1 ∨ k = 2 by omega) with rfl | rfl | rfl
    all_goals simp [Instr.index, asIntOf, run_underlying Tryd.underlying129, sizeOf, typeInfo, hq, hs, part, wdG, hagg]
theorem toList_data (s : ByteArray) : s.toList = s.data.toList := by
  exact ByteArray.toList_eq s
theorem ext_size (s : ByteArray) (a b : Nat) : (s.extract a b).size = min b s.size - a := ByteArray.size_extract
theorem toList_nil (s : ByteArray) : s.toList = [] ↔ s.size = 0 := by
  have h : s.toList = s.data.toList := toList_data s
  rw [h]
  constructor
  · intro e
    have : s.data.toList.length = 0 := by rw [e]; rfl
    rw [Array.length_toList] at this
    exact this
  · intro e
    apply List.length_eq_zero_iff.1
    rw [Array.length_toList]; exact e
theorem plE_le (s : ByteArray) (i : Nat) (hi : i ≤ s.size) : plE s i ≤ s.size := by
  have h := run_le s i hi
  unfold plE
  split
  · rename_i hd
    have : runTo s i < s.size := by
      unfold dotAt at hd
      by_cases hl : runTo s i < s.size
      · exact hl
      · rw [dif_neg hl] at hd; exact absurd hd (by decide)
    exact run_le s _ (by omega)
  · exact h
theorem plE_pos (s : ByteArray) (i : Nat) (hi : i ≤ s.size) (h : ¬ ((plW s i).toList = [] ∧ (plF s i).toList = [])) : 0 < plE s i := by
  have h0 := run_ge s i hi
  have h1 := run_le s i hi
  rw [toList_nil, toList_nil] at h
  unfold plW plF at h
  unfold plE
  cases hd : dotAt s (runTo s i)
  · rw [hd] at h
    rw [if_neg (by decide)] at h ⊢
    rw [ext_size] at h
    by_cases e : runTo s i = 0
    · exfalso; apply h; exact ⟨by omega, rfl⟩
    · omega
  · rw [if_pos rfl]
    have : runTo s i < s.size := by
      unfold dotAt at hd
      by_cases hl : runTo s i < s.size
      · exact hl
      · rw [dif_neg hl] at hd; exact absurd hd (by decide)
    have := run_ge s (runTo s i + 1) (by omega)
    omega
theorem plW_size (s : ByteArray) (i : Nat) (hs : s.size ≤ 140737488351232) : (plW s i).size ≤ 140737488351232 := by unfold plW; rw [ext_size]; omega
theorem plF_size (s : ByteArray) (i : Nat) (hs : s.size ≤ 140737488351232) : (plF s i).size ≤ 140737488351232 := by
  unfold plF; split
  · rw [ext_size]; omega
  · exact Nat.zero_le _
set_option maxHeartbeats 8000000 in
set_option maxRecDepth 100000 in
theorem general_calls (s : ByteArray) (hs : s.size ≤ 140737488351232) (w : World) :
    Calls Tryd.prog 68 #[.string s] w fun e w' => e = .returned (genV (genF s)) ∧ Below w.heap.size w w' := by
  have hj := bl0_le s
  have hi := genI_le s
  have HBl := Aside0.mk (blanks_calls s hs)
  have HGI : Aside0 (genI s = if atB s (bl0 s) 45 || atB s (bl0 s) 43 then bl0 s + 1 else bl0 s) := ⟨rfl⟩
  unfold genF
  generalize genI s = i at *
  generalize bl0 s = j at *
  go_enter Tryd.func68, Tryd.ntmps68
  go_upto_region 1 with (fail)
  have HW : Aside0 (GnW w (w.alloc gZ)) := ⟨⟨heap_alloc_new _ _, (Below.refl _ _).alloc (Nat.le_refl _) _⟩⟩
  go_upto_region 2 with (first | (go_at_call 84; refine (HBl.out _).mono ?_; rintro e w1 ⟨rfl, ⟨n1, rfl⟩⟩; replace HW := Aside0.mk (HW.out.drewN n1)))
  clear HBl
  go_cut [4] (fun v4 wc => v4 = .bool (atB s j 45) ∧ Aside0 (GnW w wc))
  case first =>
    by_cases hlt : j < s.size
    · have hd : decide (j < s.size) = true := decide_eq_true hlt
      have hx := bt_nat s j hlt
      have hq : atB s j 45 = (((s[j].toNat : Nat) : Int) == 45) := by unfold atB; rw [if_pos hlt, hx]
      have HQ := Aside0.mk hq
      clear hq hx
      go_wp2
      go_meet
      case rel => exact ⟨by rw [HQ.out], HW⟩
    · have hd : decide (j < s.size) = false := decide_eq_false hlt
      have HQ : Aside0 (atB s j 45 = false) := ⟨by unfold atB; rw [if_neg hlt]⟩
      go_wp2
      go_meet
      case rel => exact ⟨by rw [HQ.out], HW⟩
  case rest =>
    clear HW
    obtain ⟨rfl, HW⟩ := hcut
    generalize hn : atB s j 45 = neg at *
    have HN := Aside0.mk hn
    clear hn
    go_upto_region 3 with (fail)
    go_cut [36] (fun v36 wc => v36 = .bool (neg || atB s j 43) ∧ Aside0 (GnW w wc))
    case first =>
      cases neg
      · by_cases hlt : j < s.size
        · have hd : decide (j < s.size) = true := decide_eq_true hlt
          have hx := bt_nat s j hlt
          have HA : Aside0 (atB s j 43 = (((s[j].toNat : Nat) : Int) == 43)) := ⟨by unfold atB; rw [if_pos hlt, hx]⟩
          clear hx
          go_wp2
          go_meet
          case rel => exact ⟨by rw [HA.out]; rfl, HW⟩
        · have hd : decide (j < s.size) = false := decide_eq_false hlt
          have HA : Aside0 (atB s j 43 = false) := ⟨by unfold atB; rw [if_neg hlt]⟩
          go_wp2
          go_meet
          case rel => exact ⟨by rw [HA.out]; rfl, HW⟩
      · go_wp2
        go_meet
        case rel => exact ⟨rfl, HW⟩
    case rest =>
      clear HW
      obtain ⟨rfl, HW⟩ := hcut
      go_upto_if 36 with (fail)
      go_cut [3] (fun v3 wc => v3 = .int .i64 i ∧ Aside0 (GnW w wc))
      case first =>
        cases hb : (neg || atB s j 43)
        · have HI : Aside0 (i = j) := ⟨by rw [HGI.out, hb]; rfl⟩
          go_wp2
          go_meet
          case rel => exact ⟨by rw [HI.out], HW⟩
        · have HI : Aside0 (i = j + 1) := ⟨by rw [HGI.out, hb]; rfl⟩
          go_wp2
          go_meet
          case rel => exact ⟨by rw [HI.out]; rfl, HW⟩
      case rest =>
        clear HW
        obtain ⟨rfl, HW⟩ := hcut
        clear HGI
        go_wp2
        go_loopw [6, 40] (fun v6 v40 wr => ∃ m : Nat, v40 = .int .i64 m ∧ m ≤ 3 ∧ Aside0 (genA s neg i 3 0 = genA s neg i (3 - m) m) ∧ Aside0 (GnW w wr)) (fun _ v _ => 3 - (intOf v).toNat)
        case atStart => exact ⟨0, rfl, Nat.zero_le _, ⟨rfl⟩, HW⟩
        case round =>
          clear HW
          obtain ⟨m, rfl, hm, HM, HW⟩ := hrel
          by_cases hlt : m < 3
          · have HLT := Aside0.mk hlt
            have hd : decide ((m : Int) < 3) = true := decide_eq_true (by omega)
            have hstep : genA s neg i (3 - m) m = if begB s i (wdG m) then genW neg m i else genA s neg i (3 - (m + 1)) (m + 1) := by
              obtain ⟨q, hq⟩ : ∃ q, 3 - m = q + 1 := ⟨2 - m, by omega⟩
              rw [hq, genA, show 3 - (m + 1) = q by omega]
            have hix := run_wd m hlt
            cases hb : begB s i (wdG m)
            · rw [hb] at hstep
              simp only [Bool.false_eq_true, if_false] at hstep
              have HC := Aside0.mk (begins_calls s hs i hi (wdG m) (wdG_size m) _ hb)
              have HS := Aside0.mk (HM.out.trans hstep)
              clear hstep hb HM
              generalize wdG m = u at *
              go_wp2_with (first | (go_at_call 85; refine (HC.out _).mono ?_; rintro e w1 ⟨rfl, ⟨n1, rfl⟩⟩; replace HW := Aside0.mk (HW.out.drewN n1)))
              exact ⟨⟨m + 1, by go_num, HLT.out, HS, HW⟩, by simp [intOf]; omega⟩
            · rw [hb] at hstep
              simp only [if_true] at hstep
              have HS := Aside0.mk (HM.out.trans hstep)
              have HC := Aside0.mk (begins_calls s hs i hi (wdG m) (wdG_size m) _ hb)
              clear hstep hb HM hm
              have hm3 : m = 0 ∨ m = 1 ∨ m = 2 := by omega
              rcases hm3 with hm | hm | hm <;> cases neg
              all_goals
                have HS2 : Aside0 (genA s _ i 3 0 = genW _ _ i) := ⟨by rw [hm] at HS; exact HS.out⟩
                have hw : wdG m = wdG _ := congrArg wdG hm
                unfold wdG at hw
                simp only [if_true, if_neg (show ¬ (1 : Nat) = 0 by decide), if_neg (show ¬ (2 : Nat) = 0 by decide), if_neg (show ¬ (2 : Nat) = 1 by decide)] at hw
                change wdG m = _ at hw
                rw [hw] at HC hix
                clear hw hm HS
                go_wp2_with (first | (go_at_call 85; refine (HC.out _).mono ?_; rintro e w1 ⟨rfl, hdr⟩; replace HW := Aside0.mk (HW.out.step hdr.below); clear hdr; have z0 := blk_cell HW.out.res 0; have z1 := blk_cell HW.out.res 1; have z2 := blk_cell HW.out.res 2; have z3 := blk_cell HW.out.res 3; have z4 := blk_cell HW.out.res 4; simp at z0 z1 z2 z3 z4; have q0 := blk_frozen HW.out.res 0; have q1 := blk_frozen HW.out.res 1; have q2 := blk_frozen HW.out.res 2; have q3 := blk_frozen HW.out.res 3; have q4 := blk_frozen HW.out.res 4; have hz := blk_lt HW.out.res))
                refine bodyPost_ret (results_cell_row rfl _ _ w.heap.size 107 #[_, _, _, _, _] (0, 0) _ rfl (blk_alloc (HW.out.five _ _ _ _ _).1 _) Tryd.underlying107 rfl (by kernel_rfl)) rfl ⟨by rw [HN.out, HS2.out]; rfl, below_alloc (HW.out.five _ _ _ _ _).2 _⟩
          · have h3 : m = 3 := by omega
            have hd : decide ((m : Int) < 3) = false := decide_eq_false (by omega)
            have HS : Aside0 (genA s neg i 3 0 = numF s neg i) := ⟨by rw [HM.out, h3]; rfl⟩
            clear h3 hm HM
            by_cases hem : (plW s i).toList = [] ∧ (plF s i).toList = []
            · have HP := Aside0.mk (fun W => numeral_plain.calls s i false ⟨#[]⟩ ⟨#[]⟩ 0 W (by unfold numeral_plain.f; rw [if_pos ⟨by omega, by omega, hs⟩, show (i : Int).toNat = i from rfl, if_pos hem]))
              have HV : Aside0 (genA s neg i 3 0 = (0, false, ⟨#[]⟩, 0, 0)) := ⟨by rw [HS.out]; unfold numF; rw [if_pos hem]⟩
              clear HS hem
              go_wp2_with (first | (go_at_call 86; refine (HP.out _).mono ?_; rintro e w1 ⟨rfl, hb⟩; replace HW := Aside0.mk (HW.out.step hb); clear hb; have z0 := blk_cell HW.out.res 0; have z1 := blk_cell HW.out.res 1; have z2 := blk_cell HW.out.res 2; have z3 := blk_cell HW.out.res 3; have z4 := blk_cell HW.out.res 4; simp at z0 z1 z2 z3 z4; have q0 := blk_frozen HW.out.res 0; have q1 := blk_frozen HW.out.res 1; have q2 := blk_frozen HW.out.res 2; have q3 := blk_frozen HW.out.res 3; have q4 := blk_frozen HW.out.res 4; have hz := blk_lt HW.out.res))
              refine bodyPost_ret (results_cell_row rfl _ _ w.heap.size 107 #[_, _, _, _, _] (0, 0) _ rfl (blk_alloc (HW.out.five _ _ _ _ _).1 _) Tryd.underlying107 rfl (by kernel_rfl)) rfl ⟨by rw [HN.out, HV.out]; rfl, below_alloc (HW.out.five _ _ _ _ _).2 _⟩
            · have hE := plE_le s i hi
              have hE0 := plE_pos s i hi hem
              have hW := plW_size s i hs
              have hF := plF_size s i hs
              have hx := expF_rng s (plE s i) hE
              have HP := Aside0.mk (fun W => numeral_plain.calls s i false (plW s i) (plF s i) (plE s i) W (by unfold numeral_plain.f; rw [if_pos ⟨by omega, by omega, hs⟩, show (i : Int).toNat = i from rfl, if_neg hem]))
              have HV : Aside0 (genA s neg i 3 0 = (3, neg && !(digF (plW s i) (plF s i) (expF s (plE s i)).1).1.toList.isEmpty, (digF (plW s i) (plF s i) (expF s (plE s i)).1).1, (digF (plW s i) (plF s i) (expF s (plE s i)).1).2, (expF s (plE s i)).2)) := ⟨by rw [HS.out]; unfold numF; rw [if_neg hem]⟩
              have HD := Aside0.mk (fun W => numeral_digits.calls (plW s i) (plF s i) (expF s (plE s i)).1 (digF (plW s i) (plF s i) (expF s (plE s i)).1).1 (digF (plW s i) (plF s i) (expF s (plE s i)).1).2 W (by rw [dig_f _ _ _ hW hF ⟨hx.1, hx.2.1⟩]))
              have HX : Aside0 (∀ W, Calls Tryd.prog 87 #[.string s, .int .i64 (plE s i : Nat)] W fun e w' => e = .returned (.tuple #[.int .i64 (expF s (plE s i)).1, .int .i64 (expF s (plE s i)).2]) ∧ Below W.heap.size W w') := ⟨fun W => by
                obtain ⟨K, hK⟩ := exp_f s hs (plE s i) hE
                exact numeral_exponent.calls K s _ _ _ W (hK K (Nat.le_refl _))⟩
              clear HS hem hx hW hF
              generalize digF (plW s i) (plF s i) (expF s (plE s i)).1 = dg at *
              generalize expF s (plE s i) = xp at *
              generalize plW s i = wh at *
              generalize plF s i = fr at *
              generalize plE s i = en at *
              obtain ⟨d1, d2⟩ := dg
              obtain ⟨x1, x2⟩ := xp
              simp only at HV HD HX
              have he0 : ((en : Int) == 0) = false := beq_eq_false_iff_ne.mpr (by omega)
              go_upto_region 19 with (first | (go_at_call 86; refine (HP.out _).mono ?_; rintro e w1 ⟨rfl, hb⟩; replace HW := Aside0.mk (HW.out.step hb); clear hb))
              obtain ⟨W2, hW2⟩ : ∃ W2 : World, W2 = w1.alloc (.cells #[.bool false, .string wh, .string fr, .int .i64 en] 132) := ⟨_, rfl⟩
              have hz := (heap_alloc_new w1 (.cells #[.bool false, .string wh, .string fr, .int .i64 en] 132))
              replace HW : Aside0 (GnW w W2) := ⟨by rw [hW2]; exact HW.out.alloc _⟩
              rw [← hW2] at hz ⊢
              clear hW2
              have HFd := Aside0.mk hz
              have y1 := blk_cell hz 1
              have y2 := blk_cell hz 2
              have y3 := blk_cell hz 3
              simp at y1 y2 y3
              clear hz
              generalize w1.heap.size = gf at *
              go_upto_region 21 with (first | (go_at_call 87; refine (HX.out _).mono ?_; rintro e w3 ⟨rfl, hb⟩; replace HW := Aside0.mk (HW.out.step hb); replace HFd := Aside0.mk ((hb.block _ (blk_lt HFd.out)).trans HFd.out); clear hb y1 y2 y3))
              obtain ⟨W4, hW4⟩ : ∃ W4 : World, W4 = w3.alloc (.cells #[.int .u8 3, .bool false, .string (⟨#[]⟩ : ByteArray), .int .i64 0, .int .i64 x2] 107) := ⟨_, rfl⟩
              have hz4 := (heap_alloc_new w3 (.cells #[.int .u8 3, .bool false, .string (⟨#[]⟩ : ByteArray), .int .i64 0, .int .i64 x2] 107))
              have hlt2 := blk_lt HW.out.res
              replace HW : Aside0 (GnW w W4) := ⟨by rw [hW4]; exact HW.out.alloc _⟩
              replace HFd := Aside0.mk (blk_alloc HFd.out (.cells #[.int .u8 3, .bool false, .string (⟨#[]⟩ : ByteArray), .int .i64 0, .int .i64 x2] 107))
              rw [← hW4] at hz4 HFd ⊢
              clear hW4
              have HGd := Aside0.mk hz4
              have y1 := blk_cell HFd.out 1
              have y2 := blk_cell HFd.out 2
              simp at y1 y2
              clear hz4
              generalize w3.heap.size = gd at *
              have hne1 : ¬ gd = w.heap.size := by omega
              have hne2 : ¬ w.heap.size = gd := by omega
              have cs : (neg = false) ∨ (neg = true ∧ d1.toList.isEmpty = false) ∨ (neg = true ∧ d1.toList.isEmpty = true) := by cases neg <;> cases d1.toList.isEmpty <;> simp
              rcases cs with hng | ⟨hng, he⟩ | ⟨hng, he⟩
              · subst hng
                go_wp2_with (first | (go_at_call 83; refine (HD.out _).mono ?_; rintro e w5 ⟨rfl, hdr⟩; replace HW := Aside0.mk (HW.out.step hdr.below); replace HGd := Aside0.mk ((hdr.below.block _ (blk_lt HGd.out)).trans HGd.out); clear hdr y1 y2; have z0 := blk_cell HW.out.res 0; have z1 := blk_cell HW.out.res 1; have z2 := blk_cell HW.out.res 2; have z3 := blk_cell HW.out.res 3; have z4 := blk_cell HW.out.res 4; simp at z0 z1 z2 z3 z4; have q0 := blk_frozen HW.out.res 0; have q1 := blk_frozen HW.out.res 1; have q2 := blk_frozen HW.out.res 2; have q3 := blk_frozen HW.out.res 3; have q4 := blk_frozen HW.out.res 4; have hz := blk_lt HW.out.res; have p0 := blk_cell HGd.out 0; have p1 := blk_cell HGd.out 1; have p2 := blk_cell HGd.out 2; have p3 := blk_cell HGd.out 3; have p4 := blk_cell HGd.out 4; simp at p0 p1 p2 p3 p4; have t0 := blk_frozen HGd.out 0; have t1 := blk_frozen HGd.out 1; have t2 := blk_frozen HGd.out 2; have t3 := blk_frozen HGd.out 3; have t4 := blk_frozen HGd.out 4))
                refine bodyPost_ret (results_cell_row rfl _ _ w.heap.size 107 #[_, _, _, _, _] (0, 0) _ rfl (((((HW.out.far hlt2 2 _).far hlt2 3 _).far hlt2 1 _).five _ _ _ _ _).1) Tryd.underlying107 rfl (by kernel_rfl)) rfl ⟨by rw [HN.out, HV.out]; rfl, ((((HW.out.far hlt2 2 _).far hlt2 3 _).far hlt2 1 _).five _ _ _ _ _).2⟩
              · subst hng
                have hx1 : (d1.toList != ([] : List UInt8)) = true := by rw [bne_iff_ne]; intro e; rw [e] at he; exact absurd he (by decide)
                have HR2 : Aside0 ((true && !d1.toList.isEmpty) = true) := ⟨by rw [he]; rfl⟩
                go_wp2_with (first | (go_at_call 83; refine (HD.out _).mono ?_; rintro e w5 ⟨rfl, hdr⟩; replace HW := Aside0.mk (HW.out.step hdr.below); replace HGd := Aside0.mk ((hdr.below.block _ (blk_lt HGd.out)).trans HGd.out); clear hdr y1 y2; have z0 := blk_cell HW.out.res 0; have z1 := blk_cell HW.out.res 1; have z2 := blk_cell HW.out.res 2; have z3 := blk_cell HW.out.res 3; have z4 := blk_cell HW.out.res 4; simp at z0 z1 z2 z3 z4; have q0 := blk_frozen HW.out.res 0; have q1 := blk_frozen HW.out.res 1; have q2 := blk_frozen HW.out.res 2; have q3 := blk_frozen HW.out.res 3; have q4 := blk_frozen HW.out.res 4; have hz := blk_lt HW.out.res; have p0 := blk_cell HGd.out 0; have p1 := blk_cell HGd.out 1; have p2 := blk_cell HGd.out 2; have p3 := blk_cell HGd.out 3; have p4 := blk_cell HGd.out 4; simp at p0 p1 p2 p3 p4; have t0 := blk_frozen HGd.out 0; have t1 := blk_frozen HGd.out 1; have t2 := blk_frozen HGd.out 2; have t3 := blk_frozen HGd.out 3; have t4 := blk_frozen HGd.out 4))
                refine bodyPost_ret (results_cell_row rfl _ _ w.heap.size 107 #[_, _, _, _, _] (0, 0) _ rfl (((((HW.out.far hlt2 2 _).far hlt2 3 _).far hlt2 1 _).five _ _ _ _ _).1) Tryd.underlying107 rfl (by kernel_rfl)) rfl ⟨by rw [HN.out, HV.out, HR2.out]; rfl, ((((HW.out.far hlt2 2 _).far hlt2 3 _).far hlt2 1 _).five _ _ _ _ _).2⟩
              · subst hng
                have hx0 : d1.toList = ([] : List UInt8) := List.isEmpty_iff.1 he
                have hx1 : (d1.toList != ([] : List UInt8)) = false := by rw [hx0]; rfl
                have hx2 : (!d1.toList.isEmpty) = false := by rw [he]; rfl
                have HR2 : Aside0 ((true && !d1.toList.isEmpty) = false) := ⟨by rw [he]; rfl⟩
                clear hx0
                go_wp2_with (first | (go_at_call 83; refine (HD.out _).mono ?_; rintro e w5 ⟨rfl, hdr⟩; replace HW := Aside0.mk (HW.out.step hdr.below); replace HGd := Aside0.mk ((hdr.below.block _ (blk_lt HGd.out)).trans HGd.out); clear hdr y1 y2; have z0 := blk_cell HW.out.res 0; have z1 := blk_cell HW.out.res 1; have z2 := blk_cell HW.out.res 2; have z3 := blk_cell HW.out.res 3; have z4 := blk_cell HW.out.res 4; simp at z0 z1 z2 z3 z4; have q0 := blk_frozen HW.out.res 0; have q1 := blk_frozen HW.out.res 1; have q2 := blk_frozen HW.out.res 2; have q3 := blk_frozen HW.out.res 3; have q4 := blk_frozen HW.out.res 4; have hz := blk_lt HW.out.res; have p0 := blk_cell HGd.out 0; have p1 := blk_cell HGd.out 1; have p2 := blk_cell HGd.out 2; have p3 := blk_cell HGd.out 3; have p4 := blk_cell HGd.out 4; simp at p0 p1 p2 p3 p4; have t0 := blk_frozen HGd.out 0; have t1 := blk_frozen HGd.out 1; have t2 := blk_frozen HGd.out 2; have t3 := blk_frozen HGd.out 3; have t4 := blk_frozen HGd.out 4))
                refine bodyPost_ret (results_cell_row rfl _ _ w.heap.size 107 #[_, _, _, _, _] (0, 0) _ rfl (((((HW.out.far hlt2 2 _).far hlt2 3 _).far hlt2 1 _).five _ _ _ _ _).1) Tryd.underlying107 rfl (by kernel_rfl)) rfl ⟨by rw [HN.out, HV.out, HR2.out]; rfl, ((((HW.out.far hlt2 2 _).far hlt2 3 _).far hlt2 1 _).five _ _ _ _ _).2⟩
def numeral_General.f (a0 : ByteArray) : Option (Int × Bool × ByteArray × Int × Int) := if a0.size ≤ 140737488351232 then some (genF a0) else none
theorem numeral_General.calls (a0 : ByteArray) (r1 : Int) (r2 : Bool) (r3 : ByteArray) (r4 r5 : Int) (w : World) (h : numeral_General.f a0 = some (r1, r2, r3, r4, r5)) :
    Calls Tryd.prog 68 #[.string a0] w fun e w' => e = .returned (.agg #[.int .u8 r1, .bool r2, .string r3, .int .i64 r4, .int .i64 r5]) ∧ Below w.heap.size w w' := by
  unfold numeral_General.f at h
  by_cases hc : a0.size ≤ 140737488351232
  · rw [if_pos hc] at h
    have h := Option.some.inj h
    have h2 := general_calls a0 hc w
    rw [h] at h2
    exact h2
  · rw [if_neg hc] at h; exact absurd h (by simp)
end Go.Proofs.YtnnoegjgaelafaaDoor.Nu
