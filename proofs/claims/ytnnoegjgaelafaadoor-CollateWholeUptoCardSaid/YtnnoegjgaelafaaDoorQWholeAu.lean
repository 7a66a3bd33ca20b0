/- What numeral's Compare answers: numbers; all kinds together. Pure, over the printed functions. -/
import Derived.Test.YtnnoegjgaelafaaDoorQWholeAt
namespace Go.Proofs.YtnnoegjgaelafaaDoor.Nu
open Go.RowKit Go.Proofs.YtnnoegjgaelafaaDoorW.PrintWords Go.Proofs.YtnnoegjgaelafaaDoorW.PrintLast Go.Proofs.YtnnoegjgaelafaaDoorW.PrintMore
open Go.Proofs.YtnnoegjgaelafaaDoor.Pr (ordL or3 ord_rng Tri sgn cmpI_zero cmpI_self cmpI_rng cmpI_anti cmpB_rng cmpB_anti versW versL vers_rng)
set_option linter.unusedVariables false
set_option linter.unusedSimpArgs false

def plE1 (s : ByteArray) (i : Nat) : Nat := if (plW s i).toList = [] ∧ (plF s i).toList = [] then 0 else plE s i
theorem nil_ba (s : ByteArray) (h : s.toList = []) : s = ⟨#[]⟩ := ba_ext (by rw [(nil_iff s).1 h])
theorem plain_f (s : ByteArray) (hs : s.size ≤ 140737488351232) (i : Nat) (hi : i ≤ s.size) : numeral_plain.f s (i : Int) = some (false, plW s i, plF s i, (plE1 s i : Int)) := by
  unfold numeral_plain.f plE1
  rw [if_pos ⟨by omega, by omega, hs⟩, show (i : Int).toNat = i from rfl]
  by_cases h : (plW s i).toList = [] ∧ (plF s i).toList = []
  · rw [if_pos h, if_pos h, nil_ba _ h.1, nil_ba _ h.2]; rfl
  · rw [if_neg h, if_neg h]
theorem plE1_le (s : ByteArray) (i : Nat) (hi : i ≤ s.size) : plE1 s i ≤ s.size := by
  have := plE_le s i hi
  unfold plE1; split <;> omega
def sigN (s : ByteArray) : Bool := atB s (bl0 s) 45
def sigP (s : ByteArray) : Nat := if sigN s then bl0 s + 1 else bl0 s
theorem sigP_le (s : ByteArray) : sigP s ≤ s.size := by
  have h := bl0_le s
  unfold sigP
  split
  · rename_i hc; exact atB_lt hc
  · exact h
theorem signed_f (s : ByteArray) (hs : s.size ≤ 140737488351232) : Ev (fun k => numeral_signed.f k s) (sigN s && decide ((plE1 s (sigP s) : Int) > 0), plW s (sigP s), plF s (sigP s), (plE1 s (sigP s) : Int)) := by
  have hb := blanks_f s hs
  have hl := bl0_le s
  refine Ev.bind hb ?_
  by_cases c1 : bl0 s < s.size
  · have c1' : ((bl0 s : Nat) : Int) < (s.size : Int) := by omega
    by_cases c2 : bt s ((bl0 s : Nat) : Int) = 45
    · have hn : sigN s = true := by unfold sigN atB; rw [if_pos c1, beq_iff_eq.mpr c2]
      have hp : sigP s = bl0 s + 1 := by unfold sigP; rw [if_pos hn]
      have hw : wrap64 (((bl0 s : Nat) : Int) + 1) = ((bl0 s + 1 : Nat) : Int) := by rw [wr_id (by omega) (by omega)]; rfl
      rw [hn, hp]
      exact Ev.congr (f := fun _ => some (true && decide ((plE1 s (bl0 s + 1) : Int) > 0), plW s (bl0 s + 1), plF s (bl0 s + 1), (plE1 s (bl0 s + 1) : Int))) (fun k => by rw [if_pos c1', if_pos (by omega), if_pos c2, hw, plain_f s hs (bl0 s + 1) (by omega)]; rfl) (Ev.now _)
    · have hn : sigN s = false := by unfold sigN atB; rw [if_pos c1, beq_eq_false_iff_ne.mpr c2]
      have hp : sigP s = bl0 s := by unfold sigP; rw [hn]; rfl
      rw [hn, hp]
      exact Ev.congr (f := fun _ => some (false, plW s (bl0 s), plF s (bl0 s), (plE1 s (bl0 s) : Int))) (fun k => by rw [if_pos c1', if_pos (by omega), if_neg c2, plain_f s hs (bl0 s) hl]; rfl) (Ev.now _)
  · have c1' : ¬ ((bl0 s : Nat) : Int) < (s.size : Int) := by omega
    have hn : sigN s = false := by unfold sigN atB; rw [if_neg c1]
    have hp : sigP s = bl0 s := by unfold sigP; rw [hn]; rfl
    rw [hn, hp]
    exact Ev.congr (f := fun _ => some (false, plW s (bl0 s), plF s (bl0 s), (plE1 s (bl0 s) : Int))) (fun k => by rw [if_neg c1', plain_f s hs (bl0 s) hl]; rfl) (Ev.now _)
def hWh (s : ByteArray) : ByteArray := tlS (plW s (sigP s))
def hFr (s : ByteArray) : ByteArray := trS (plF s (sigP s))
def hSz (s : ByteArray) : Nat := plE1 s (sigP s)
def hNeg (s : ByteArray) : Bool := (sigN s && decide ((hSz s : Int) > 0)) && (!(hWh s).toList.isEmpty || !(hFr s).toList.isEmpty)
theorem hSz_le (s : ByteArray) : hSz s ≤ s.size := plE1_le s _ (sigP_le s)
theorem Decimal_f (s : ByteArray) (hs : s.size ≤ 140737488351232) : Ev (fun k => numeral_Decimal.f k s) (hNeg s, hWh s, hFr s, (hSz s : Int)) := by
  have hF := plF_size s (sigP s) hs
  refine Ev.bind (signed_f s hs) ?_
  exact Ev.congr (f := fun _ => some (hNeg s, hWh s, hFr s, (hSz s : Int))) (fun k => by
    simp only
    unfold numeral_decimal.f
    rw [tl_f, tr_f _ (by omega)]
    rfl) (Ev.now _)
def units : ByteArray := ⟨#[75, 77, 71, 84, 80, 69, 90, 89, 82, 81]⟩
/-- The rank of the letter behind the number, 0: none. -/
def hLet (s : ByteArray) : Int := if hSz s = 0 ∨ hSz s = s.size then 0 else Lib.indexByte units.data.toList (if bt s (hSz s : Int) = 107 then 75 else bt s (hSz s : Int)).toNat.toUInt8 + 1
def hRk (s : ByteArray) : Int := if (hWh s).toList = [] ∧ (hFr s).toList = [] then 0 else hLet s
theorem idx_lt : ∀ (l : List UInt8) (c : UInt8), Lib.indexByte l c < l.length
  | [], c => by simp [Lib.indexByte]
  | b :: l, c => by
    have := idx_lt l c
    unfold Lib.indexByte
    rw [List.length_cons]
    split
    · omega
    · split <;> omega
theorem hLet_rng (s : ByteArray) : 0 ≤ hLet s ∧ hLet s ≤ 10 := by
  unfold hLet
  split
  · omega
  · have h1 := Lib.indexByte_ge units.data.toList (if bt s (hSz s : Int) = 107 then 75 else bt s (hSz s : Int)).toNat.toUInt8
    have h2 := idx_lt units.data.toList (if bt s (hSz s : Int) = 107 then 75 else bt s (hSz s : Int)).toNat.toUInt8
    have : units.data.toList.length = 10 := rfl
    omega
theorem Human_f (s : ByteArray) (hs : s.size ≤ 140737488351232) : Ev (fun k => numeral_Human.f k s) (hNeg s, hWh s, hFr s, (hSz s : Int) + (if hLet s > 0 then 1 else 0), hRk s) := by
  have hle := hSz_le s
  have hlr := hLet_rng s
  refine Ev.bind (Decimal_f s hs) ?_
  have stop : (hSz s = 0 ∨ hSz s = s.size) → Ev (fun k => numeral_Human.j0 k s true (hNeg s) (hWh s) (hFr s) (hSz s : Int)) (hNeg s, hWh s, hFr s, (hSz s : Int) + (if hLet s > 0 then 1 else 0), hRk s) := by
    intro h
    have e1 : hLet s = 0 := by unfold hLet; rw [if_pos h]
    have e2 : hRk s = 0 := by unfold hRk; rw [e1]; split <;> rfl
    rw [e1, e2, if_neg (by decide), Int.add_zero]
    exact Ev.step (f := fun _ => some (hNeg s, hWh s, hFr s, (hSz s : Int), 0)) (fun k => by rw [numeral_Human.j0, if_pos rfl]) (Ev.now _)
  by_cases c0 : hSz s = 0
  · exact Ev.congr (f := fun k => numeral_Human.j0 k s true (hNeg s) (hWh s) (hFr s) (hSz s : Int)) (fun k => by simp only; rw [if_pos (by omega)]) (stop (.inl c0))
  · by_cases c1 : hSz s = s.size
    · have c1' : (((hSz s : Nat) : Int) == (s.size : Int)) = true := beq_iff_eq.mpr (by omega)
      exact Ev.congr (f := fun k => numeral_Human.j0 k s true (hNeg s) (hWh s) (hFr s) (hSz s : Int)) (fun k => by simp only; rw [if_neg (by omega), c1']) (stop (.inr c1))
    · have c1' : (((hSz s : Nat) : Int) == (s.size : Int)) = false := beq_eq_false_iff_ne.mpr (by omega)
      have hL : hLet s = Lib.indexByte units.data.toList (if bt s (hSz s : Int) = 107 then 75 else bt s (hSz s : Int)).toNat.toUInt8 + 1 := by unfold hLet; rw [if_neg (by omega)]
      refine Ev.congr (f := fun k => numeral_Human.j0 k s false (hNeg s) (hWh s) (hFr s) (hSz s : Int)) (fun k => by simp only; rw [if_neg (by omega), c1']) ?_
      have hlt : ((hSz s : Nat) : Int) < (s.size : Int) := by omega
      have h0 : (0 : Int) ≤ ((hSz s : Nat) : Int) := by omega
      have tail : ∀ c : Int, c = (if bt s (hSz s : Int) = 107 then 75 else bt s (hSz s : Int)) → Ev (fun k => numeral_Human.j1 k c (hNeg s) (hWh s) (hFr s) (hSz s : Int)) (hNeg s, hWh s, hFr s, (hSz s : Int) + (if hLet s > 0 then 1 else 0), hRk s) := by
        intro c hc
        have hi : Lib.indexByte units.data.toList c.toNat.toUInt8 = hLet s - 1 := by rw [hL, hc]; omega
        have hw : wrap64 (hLet s - 1 + 1) = hLet s := by rw [wr_id (by omega) (by omega)]; omega
        have hw2 : wrap64 ((hSz s : Int) + 1) = (hSz s : Int) + 1 := wr_id (by omega) (by omega)
        refine Ev.step (f := fun _ => some (hNeg s, hWh s, hFr s, (hSz s : Int) + (if hLet s > 0 then 1 else 0), hRk s)) (fun k => ?_) (Ev.now _)
        rw [numeral_Human.j1]
        unfold strings_IndexByte.f
        simp only [Option.bind_some]
        have hi2 : Lib.indexByte [75, 77, 71, 84, 80, 69, 90, 89, 82, 81] c.toNat.toUInt8 = hLet s - 1 := hi
        rw [hi2, hw]
        unfold hRk
        by_cases g : hLet s > 0
        · rw [if_pos g, if_pos g, hw2]
          by_cases e1 : (hWh s).toList = []
          · rw [if_pos e1]
            by_cases e2 : (hFr s).toList = []
            · rw [if_pos e2, if_pos ⟨e1, e2⟩]
            · rw [if_neg e2, if_neg (fun h => e2 h.2)]
          · rw [if_neg e1, if_neg (fun h => e1 h.1)]
        · rw [if_neg g, if_neg g, Int.add_zero]
          by_cases e1 : (hWh s).toList = []
          · rw [if_pos e1]
            by_cases e2 : (hFr s).toList = []
            · rw [if_pos e2, if_pos ⟨e1, e2⟩]
            · rw [if_neg e2, if_neg (fun h => e2 h.2)]
          · rw [if_neg e1, if_neg (fun h => e1 h.1)]
      by_cases c2 : bt s (hSz s : Int) = 107
      · exact Ev.step (f := fun k => numeral_Human.j1 k 75 (hNeg s) (hWh s) (hFr s) (hSz s : Int)) (fun k => by rw [numeral_Human.j0, if_neg (by decide), if_pos h0, if_pos hlt, if_pos c2]) (tail 75 (by rw [if_pos c2]))
      · exact Ev.step (f := fun k => numeral_Human.j1 k (bt s (hSz s : Int)) (hNeg s) (hWh s) (hFr s) (hSz s : Int)) (fun k => by rw [numeral_Human.j0, if_neg (by decide), if_pos h0, if_pos hlt, if_neg c2]) (tail _ (by rw [if_neg c2]))
/-- A size: sign, rank, exponent, digits. -/
def sizF (neg : Bool) (d : ByteArray) (x r : Int) : Int × Int × Int × ByteArray := if d.toList = [] then (0, 0, 0, ⟨#[]⟩) else if neg then (-1, r, x, d) else (1, r, x, d)
theorem size_f (neg : Bool) (d : ByteArray) (x r : Int) : numeral_sizeOf.f neg d x r = some (sizF neg d x r) := by
  unfold numeral_sizeOf.f sizF
  split
  · rfl
  · split <;> rfl
theorem sizF_sgn (neg : Bool) (d : ByteArray) (x r : Int) : sgn (sizF neg d x r).1 := by
  unfold sizF
  split
  · exact .inr (.inl rfl)
  · split
    · exact .inl rfl
    · exact .inr (.inr rfl)
def humF (k : Int) (s : ByteArray) : Int × Int × Int × ByteArray := sizF (hNeg s) (digF (hWh s) (hFr s) 0).1 (digF (hWh s) (hFr s) 0).2 (if k = 16 then 0 else hRk s)
theorem hWh_size (s : ByteArray) (hs : s.size ≤ 140737488351232) : (hWh s).size ≤ 140737488351232 := Nat.le_trans (tlS_size _) (plW_size s _ hs)
theorem hFr_size (s : ByteArray) (hs : s.size ≤ 140737488351232) : (hFr s).size ≤ 140737488351232 := Nat.le_trans (trS_size _) (plF_size s _ hs)
theorem human_f (kd : Int) (s : ByteArray) (hs : s.size ≤ 140737488351232) : Ev (fun k => numeral_human.f k kd s) (humF kd s) := by
  refine Ev.bind (Human_f s hs) ?_
  have hd := dig_f (hWh s) (hFr s) 0 (hWh_size s hs) (hFr_size s hs) (by omega)
  by_cases c : kd = 16
  · exact Ev.congr (f := fun _ => some (humF kd s)) (fun k => by simp only; rw [if_pos c, hd]; simp only [Option.bind_some]; rw [size_f]; unfold humF; rw [if_pos c]; rfl) (Ev.now _)
  · exact Ev.congr (f := fun _ => some (humF kd s)) (fun k => by simp only; rw [if_neg c, hd]; simp only [Option.bind_some]; rw [size_f]; unfold humF; rw [if_neg c]; rfl) (Ev.now _)
def ordF (a b : Int × Int × Int × ByteArray) : Int := ordL a.1 a.2.1 a.2.2.1 a.2.2.2.data.toList b.1 b.2.1 b.2.2.1 b.2.2.2.data.toList
theorem order_f (a b : Int × Int × Int × ByteArray) (ha : sgn a.1) : Ev (fun k => numeral_order.f k a.1 a.2.1 a.2.2.1 a.2.2.2 b.1 b.2.1 b.2.2.1 b.2.2.2) (ordF a b) := by
  obtain ⟨s1, r1, e1, d1⟩ := a
  obtain ⟨s2, r2, e2, d2⟩ := b
  simp only at ha ⊢
  unfold ordF ordL
  simp only
  by_cases c : s1 = s2
  · subst c
    rw [if_pos (cmpI_self _)]
    by_cases z : s1 = 0
    · rw [z, Int.zero_mul]
      exact Ev.congr (f := fun k => numeral_order.j0 k true 0 r1 e1 d1 0 r2 e2 d2) (fun k => by unfold numeral_order.f; rw [if_pos rfl]; rfl)
        (Ev.step (f := fun _ => some 0) (fun k => by rw [numeral_order.j0, if_pos rfl]; unfold cmp_Compare_int.f; rfl) (Ev.now _))
    · have hz : (s1 == 0) = false := beq_eq_false_iff_ne.mpr z
      have h3 := Pr.or3_rng (cmpI_rng r1 r2) (cmpI_rng e1 e2) (cmpB_rng d1.data.toList d2.data.toList)
      have hw : wrap64 (s1 * or3 (Lib.compareInt r1 r2) (Lib.compareInt e1 e2) (Lib.compareBytes d1.data.toList d2.data.toList)) = s1 * or3 (Lib.compareInt r1 r2) (Lib.compareInt e1 e2) (Lib.compareBytes d1.data.toList d2.data.toList) := by
        rcases ha with rfl | rfl | rfl <;> exact wr_id (by omega) (by omega)
      refine Ev.congr (f := fun k => numeral_order.j0 k false s1 r1 e1 d1 s1 r2 e2 d2) (fun k => by unfold numeral_order.f; rw [if_pos rfl, hz]) ?_
      refine Ev.step (f := fun k => (cmp_Or_int.f k [Lib.compareInt r1 r2, Lib.compareInt e1 e2, Lib.compareBytes d1.data.toList d2.data.toList]).bind fun t => some (wrap64 (s1 * t))) (fun k => by
        rw [numeral_order.j0, if_neg (by decide)]
        unfold cmp_Compare_int.f strings_Compare.f
        simp only [Option.bind_some]) ?_
      exact Ev.bind (or3_f _ _ _) (Ev.congr (f := fun _ => some (s1 * or3 (Lib.compareInt r1 r2) (Lib.compareInt e1 e2) (Lib.compareBytes d1.data.toList d2.data.toList))) (fun k => by rw [hw]) (Ev.now _))
  · have cz : ¬ Lib.compareInt s1 s2 = 0 := fun h => c ((cmpI_zero _ _).1 h)
    rw [if_neg cz]
    exact Ev.congr (f := fun k => numeral_order.j0 k true s1 r1 e1 d1 s2 r2 e2 d2) (fun k => by unfold numeral_order.f; rw [if_neg c])
      (Ev.step (f := fun _ => some (Lib.compareInt s1 s2)) (fun k => by rw [numeral_order.j0, if_pos rfl]; unfold cmp_Compare_int.f; rfl) (Ev.now _))
theorem class_f (x y : Int) : api_Class_77.f x y = some (Lib.compareInt x y) := by
  unfold api_Class_77.f api_Class_98.f
  have hx : (x != x) = false := bne_eq_false_iff_eq.mpr rfl
  have hy : (y != y) = false := bne_eq_false_iff_eq.mpr rfl
  rw [hx, hy]
  simp only [Option.bind_some]
  rw [if_neg (by decide), if_neg (by decide)]
  unfold Lib.compareInt
  split
  · rfl
  · split <;> rfl
def genZ (s : ByteArray) : Int × Int × Int × ByteArray := sizF (genF s).2.1 (genF s).2.2.1 (genF s).2.2.2.1 0
/-- What Compare says, of every kind. -/
def cmpN (k : Int) (a b : ByteArray) : Int :=
  if k = 16 ∨ k = 64 then ordF (humF k a) (humF k b)
  else if k = 128 then Lib.compareInt (monI a : Int) (monI b : Int)
  else if k = 256 then versW rkU a.data.toList b.data.toList
  else if k = 32 then (if Lib.compareInt (genF a).1 (genF b).1 = 0 then ordF (genZ a) (genZ b) else Lib.compareInt (genF a).1 (genF b).1)
  else Lib.compareBytes a.data.toList b.data.toList
theorem versW_rng (rk : UInt8 → Int) (a b : List UInt8) : -1 ≤ versW rk a b ∧ versW rk a b ≤ 1 := vers_rng rk _ _ _
theorem cmpN_rng (k : Int) (a b : ByteArray) : -1 ≤ cmpN k a b ∧ cmpN k a b ≤ 1 := by
  unfold cmpN
  split
  · exact ord_rng _ _ _ _ _ _ _ _ (sizF_sgn _ _ _ _)
  · split
    · exact cmpI_rng _ _
    · split
      · exact versW_rng _ _ _
      · split
        · split
          · exact ord_rng _ _ _ _ _ _ _ _ (sizF_sgn _ _ _ _)
          · exact cmpI_rng _ _
        · exact cmpB_rng _ _
theorem Compare_f (k : Int) (a b : ByteArray) (ha : a.size ≤ 1048576) (hb : b.size ≤ 1048576) : Ev (fun q => numeral_Compare.f q k a b) (cmpN k a b) := by
  unfold cmpN
  have hum : Ev (fun q => numeral_Compare.j0 q k a b k true) (ordF (humF k a) (humF k b)) := by
    refine Ev.step (f := fun q => (numeral_human.f q k a).bind fun bt204 => ((numeral_human.f q k b).bind fun bt208 => ((numeral_order.f q bt204.1 bt204.2.1 bt204.2.2.1 bt204.2.2.2 bt208.1 bt208.2.1 bt208.2.2.1 bt208.2.2.2).bind fun t212 => (some t212)))) (fun q => by rw [numeral_Compare.j0, if_pos rfl]) ?_
    exact Ev.bind (human_f k a (by omega)) (Ev.bind (human_f k b (by omega)) (Ev.bind (order_f _ _ (sizF_sgn _ _ _ _)) (Ev.now _)))
  by_cases c16 : k = 16
  · rw [if_pos (.inl c16)]
    exact Ev.congr (f := fun q => numeral_Compare.j0 q k a b k true) (fun q => by unfold numeral_Compare.f; rw [if_pos c16, beq_iff_eq.mpr c16]) hum
  · by_cases c64 : k = 64
    · rw [if_pos (.inr c64)]
      exact Ev.congr (f := fun q => numeral_Compare.j0 q k a b k true) (fun q => by unfold numeral_Compare.f; rw [if_neg c16, beq_iff_eq.mpr c64]) hum
    · rw [if_neg (fun h => h.elim c16 c64)]
      refine Ev.congr (f := fun q => numeral_Compare.j0 q k a b k false) (fun q => by unfold numeral_Compare.f; rw [if_neg c16, beq_eq_false_iff_ne.mpr c64]) ?_
      by_cases c128 : k = 128
      · rw [if_pos c128]
        refine Ev.step (f := fun _ => some (Lib.compareInt (monI a : Int) (monI b : Int))) (fun q => ?_) (Ev.now _)
        rw [numeral_Compare.j0, if_neg (by decide), if_pos c128]
        unfold numeral_Month.f cmp_Compare_int.f
        rw [if_pos (by omega), if_pos (by omega)]; rfl
      · rw [if_neg c128]
        by_cases c256 : k = 256
        · rw [if_pos c256]
          refine Ev.step (f := fun q => (numeral_versions.f q a b).bind fun t => some t) (fun q => ?_) (Ev.bind (versions_f a b ha hb) (Ev.now _))
          rw [numeral_Compare.j0, if_neg (by decide), if_neg c128, if_pos c256]
        · rw [if_neg c256]
          by_cases c32 : k = 32
          · rw [if_pos c32]
            have hga : numeral_General.f a = some (genF a) := by unfold numeral_General.f; rw [if_pos (by omega)]
            have hgb : numeral_General.f b = some (genF b) := by unfold numeral_General.f; rw [if_pos (by omega)]
            by_cases ce : (genF a).1 = (genF b).1
            · rw [if_pos ((cmpI_zero _ _).2 ce)]
              refine Ev.step (f := fun q => (numeral_order.f q (genZ a).1 (genZ a).2.1 (genZ a).2.2.1 (genZ a).2.2.2 (genZ b).1 (genZ b).2.1 (genZ b).2.2.1 (genZ b).2.2.2).bind fun t => some t) (fun q => ?_) (Ev.bind (order_f _ _ (sizF_sgn _ _ _ _)) (Ev.now _))
              rw [numeral_Compare.j0, if_neg (by decide), if_neg c128, if_neg c256, if_pos c32, hga, hgb]
              simp only [Option.bind_some]
              rw [if_pos ce, size_f, size_f]
              rfl
            · rw [if_neg (fun h => ce ((cmpI_zero _ _).1 h))]
              refine Ev.step (f := fun _ => some (Lib.compareInt (genF a).1 (genF b).1)) (fun q => ?_) (Ev.now _)
              rw [numeral_Compare.j0, if_neg (by decide), if_neg c128, if_neg c256, if_pos c32, hga, hgb]
              simp only [Option.bind_some]
              rw [if_neg ce, class_f]; rfl
          · rw [if_neg c32]
            refine Ev.step (f := fun _ => some (Lib.compareBytes a.data.toList b.data.toList)) (fun q => ?_) (Ev.now _)
            rw [numeral_Compare.j0, if_neg (by decide), if_neg c128, if_neg c256, if_neg c32]
            unfold strings_Compare.f; rfl
theorem compareN_calls (k : Int) (a b : ByteArray) (ha : a.size ≤ 1048576) (hb : b.size ≤ 1048576) (w : World) (hG : GTab w) :
    Calls Tryd.prog 54 #[.int .u16 k, .string a, .string b] w fun e w' => e = .returned (.int .i64 (cmpN k a b)) ∧ Below w.heap.size w w' := by
  obtain ⟨K, hK⟩ := Compare_f k a b ha hb
  exact numeral_Compare.calls K k a b _ w (hK K (Nat.le_refl _)) hG
end Go.Proofs.YtnnoegjgaelafaaDoor.Nu
