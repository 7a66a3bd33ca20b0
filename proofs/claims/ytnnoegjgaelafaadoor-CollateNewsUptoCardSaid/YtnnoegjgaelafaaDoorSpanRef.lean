/- The document's begin and Span, as plain functions of the places. Pure. -/
import Derived.Test.YtnnoegjgaelafaaDoorPlace
import Derived.Test.YtnnoegjgaelafaaDoorChk1
namespace Go.Proofs.YtnnoegjgaelafaaDoor.Pr
open Go.RowKit Go.Proofs.YtnnoegjgaelafaaDoorW.PrintWords Go.Proofs.YtnnoegjgaelafaaDoorW.PrintLast
set_option linter.unusedVariables false

/-- Where field number n begins; with b: behind the blanks there. -/
def begN (s : ByteArray) (t n : Int) (b : Bool) : Nat := if b then skipTo s true (placeFrom s t 0 (n - 1).toNat).1 else (placeFrom s t 0 (n - 1).toNat).1
theorem place_L (s : ByteArray) (t : Int) (h1 : -1 ≤ t) (h2 : t ≤ 255) (n : Nat) : (placeFrom s t 0 n).1 = match (fieldsL s t)[n]? with | some p => p.1 | none => s.size := by
  unfold fieldsL
  by_cases h : t = -1 ∧ s.size = 0
  · rw [if_pos (.inr (.inr h))]
    have := place_le s t n 0 (Nat.zero_le _)
    simp; omega
  · rw [if_neg (by omega), place_fields s t n 0 (Nat.zero_le _)]
    cases (fieldsFrom s t 0)[n]? <;> rfl
theorem beg_le (s : ByteArray) (t n : Int) (b : Bool) : begN s t n b ≤ s.size := by
  have := place_le s t (n - 1).toNat 0 (Nat.zero_le _)
  unfold begN; split
  · exact skip_le s true _ this
  · exact this
theorem ref_skip0 (s : ByteArray) (i : Int) : Ev (fun k => millref5_begin.l0 k s false i) i :=
  Ev.step (f := fun k => millref5_begin.j2 k s false i false) (fun k => by rw [millref5_begin.l0, if_neg (by decide)]) (Ev.step (f := fun _ => some i) (fun k => by rw [millref5_begin.j2, if_neg (by decide)]) (Ev.now _))
theorem ref_skip1 (s : ByteArray) (hs : s.size ≤ 1048576) : ∀ (n i : Nat), s.size - i = n → i ≤ s.size → Ev (fun k => millref5_begin.l0 k s true (i : Int)) ((skipTo s true i : Nat) : Int)
  | 0, i, hn, hi => by
    rw [skipTo_end s true i (by omega)]
    refine Ev.step (f := fun k => millref5_begin.j2 k s true (i : Int) false) (fun k => by rw [millref5_begin.l0, if_pos rfl, decide_eq_false (by omega)]) ?_
    exact Ev.step (f := fun _ => some (i : Int)) (fun k => by rw [millref5_begin.j2, if_neg (by decide)]) (Ev.now _)
  | n + 1, i, hn, hi => by
    have hlt : i < s.size := by omega
    have hw := wrap64_id (x := (i : Int) + 1) (by omega) (by omega)
    refine Ev.step (f := fun k => millref5_begin.j2 k s true (i : Int) true) (fun k => by rw [millref5_begin.l0, if_pos rfl, decide_eq_true (by omega)]) ?_
    cases hb : isB s i
    · rw [skipTo_stop s true i hlt (by rw [hb]; decide)]
      refine Ev.step (f := fun _ => some (i : Int)) (fun k => by
        rw [millref5_begin.j2, if_pos rfl, if_pos (by omega), if_pos (by omega), blank_some, Option.bind_some]
        have e : blank (bt s (i : Int)) = false := hb
        rw [e]; rfl) (Ev.now _)
    · rw [skipTo_go s true i hlt hb]
      refine Ev.step (f := fun k => millref5_begin.l0 k s true ((i + 1 : Nat) : Int)) (fun k => by
        rw [millref5_begin.j2, if_pos rfl, if_pos (by omega), if_pos (by omega), blank_some, Option.bind_some]
        have e : blank (bt s (i : Int)) = true := hb
        rw [e, if_pos rfl, hw]; rfl) ?_
      exact ref_skip1 s hs n (i + 1) (by omega) (by omega)
theorem rd_spans (l : List (Nat × Nat)) (i : Nat) (x : Int) (hx : x.toNat = i) (h : i < l.length) : rd_T37 (spans l) x = spanOf l[i] := by
  simp [rd_T37, spans, hx, h]
theorem ref_begin (s : ByteArray) (hs : s.size ≤ 1048576) (t : Int) (h1 : -1 ≤ t) (h2 : t ≤ 255) (n : Int) (hn : 1 ≤ n) (hn2 : n ≤ 2147483647) (b : Bool) :
    Ev (fun k => millref5_begin.f k s (spans (fieldsL s t)) n b) ((begN s t n b : Nat) : Int) := by
  have hp := place_L s t h1 h2 (n - 1).toNat
  have hle := place_le s t (n - 1).toNat 0 (Nat.zero_le _)
  have hw := wrap64_id (x := n - 1) (by omega) (by omega)
  have hl : (spans (fieldsL s t)).length = (fieldsL s t).length := by simp [spans]
  have main : Ev (fun k => millref5_begin.j0 k s b (((placeFrom s t 0 (n - 1).toNat).1 : Nat) : Int)) ((begN s t n b : Nat) : Int) := by
    refine Ev.step (f := fun k => millref5_begin.l0 k s b (((placeFrom s t 0 (n - 1).toNat).1 : Nat) : Int)) (fun k => by rw [millref5_begin.j0]) ?_
    cases b
    · exact ref_skip0 s _
    · exact ref_skip1 s hs _ _ rfl hle
  by_cases h : n ≤ ((fieldsL s t).length : Int)
  · have hlt : (n - 1).toNat < (fieldsL s t).length := by omega
    rw [List.getElem?_eq_getElem hlt] at hp
    refine Ev.congr (fun k => ?_) main
    rw [millref5_begin.f, hl, if_pos h, hw, if_pos (by omega), if_pos (by omega), hp]
    rw [rd_spans _ _ (n - 1) rfl hlt]; rfl
  · rw [List.getElem?_eq_none (by omega)] at hp
    refine Ev.congr (fun k => ?_) main
    rw [millref5_begin.f, hl, if_neg h, hp]
/-- The part of a line that is a key. -/
def fromI (s : ByteArray) (t : Int) (k : Ky) : Int := min (s.size : Int) ((begN s t k.f0 (modB k.f4) : Nat) + k.f1 - 1)
def toI (s : ByteArray) (t : Int) (k : Ky) : Int :=
  if k.f2 > 0 then (if k.f3 > 0 then min (s.size : Int) ((begN s t k.f2 k.f5 : Nat) + k.f3) else match (fieldsL s t)[(k.f2 - 1).toNat]? with | some p => (p.2 : Int) | none => (s.size : Int)) else (s.size : Int)
def spanI (s : ByteArray) (t : Int) (k : Ky) : Int × Int := (fromI s t k, max (fromI s t k) (toI s t k))
/-- A key's numbers are in their bounds. -/
structure Fit (k : Ky) : Prop where
  a : 1 ≤ k.f0
  b : k.f0 ≤ 2147483647
  c : 1 ≤ k.f1
  d : k.f1 ≤ 2147483647
  e : 0 ≤ k.f2
  f : k.f2 ≤ 2147483647
  g : 0 ≤ k.f3
  h : k.f3 ≤ 2147483647
theorem fit_of_right (k : Ky) (h : rightB k = true) : Fit k := by
  have e := right_some k
  rw [h] at e
  unfold collate_right.f at e
  generalize (bits .andNot .u16 k.f4 1023 == 0) = q at e
  by_cases c0 : k.f0 < 1
  · rw [if_pos c0] at e; cases e
  rw [if_neg c0] at e
  by_cases c1 : k.f0 > 2147483647
  · rw [if_pos c1] at e; cases e
  rw [if_neg c1] at e
  by_cases c2 : k.f1 < 1
  · rw [if_pos c2] at e; cases e
  rw [if_neg c2] at e
  by_cases c3 : k.f1 > 2147483647
  · rw [if_pos c3] at e; cases e
  rw [if_neg c3] at e
  by_cases c4 : k.f2 < 0
  · rw [if_pos c4] at e; cases e
  rw [if_neg c4] at e
  by_cases c5 : k.f2 > 2147483647
  · rw [if_pos c5] at e; cases e
  rw [if_neg c5] at e
  by_cases c6 : k.f3 < 0
  · rw [if_pos c6] at e; cases e
  rw [if_neg c6] at e
  by_cases c7 : k.f3 > 2147483647
  · rw [if_pos c7] at e; cases e
  exact ⟨by omega, by omega, by omega, by omega, by omega, by omega, by omega, by omega⟩
theorem ref_span3 (s : ByteArray) (hs : s.size ≤ 1048576) (t : Int) (h1 : -1 ≤ t) (h2 : t ≤ 255) (k : Ky) (hk : Fit k) (F T : Int) (hF0 : 0 ≤ F) (hF : F ≤ s.size) (b : Bool) (hb : b = decide (k.f2 > 0 ∧ k.f3 > 0)) (hT : b = false → T = toI s t k) :
    Ev (fun n => millref5_Span.j3 n s (spans (fieldsL s t)) F T b k.f0 k.f1 k.f2 k.f3 k.f4 k.f5) (F, max F (toI s t k)) := by
  have hg := hk.g; have hh := hk.h; have he := hk.e; have hf := hk.f
  cases b
  · have hT := hT rfl
    by_cases hlt : T < F
    · refine Ev.step (f := fun _ => some (F, F)) (fun n => by rw [millref5_Span.j3, if_neg (by decide), if_pos hlt]) ?_
      have : max F (toI s t k) = F := by omega
      rw [this]; exact Ev.now _
    · refine Ev.step (f := fun _ => some (F, T)) (fun n => by rw [millref5_Span.j3, if_neg (by decide), if_neg hlt]) ?_
      have : max F (toI s t k) = T := by omega
      rw [this]; exact Ev.now _
  · obtain ⟨hp2, hp3⟩ := of_decide_eq_true hb.symm
    have hbl := beg_le s t k.f2 k.f5
    have hw1 : wrap64 ((s.size : Int) - k.f3) = (s.size : Int) - k.f3 := by unfold wrap64; omega
    have hw2 := wrap64_id (x := ((begN s t k.f2 k.f5 : Nat) : Int) + k.f3) (by omega) (by omega)
    have hto : toI s t k = min (s.size : Int) ((begN s t k.f2 k.f5 : Nat) + k.f3) := by unfold toI; rw [if_pos hp2, if_pos hp3]
    refine Ev.step (f := fun n => (millref5_begin.f n s (spans (fieldsL s t)) k.f2 k.f5).bind fun t142 => (if t142 > (wrap64 ((s.size : Int) - k.f3)) then (if (s.size : Int) < F then (some (F, F)) else (some (F, (s.size : Int)))) else (if (wrap64 (t142 + k.f3)) < F then (some (F, F)) else (some (F, wrap64 (t142 + k.f3)))))) (fun n => by rw [millref5_Span.j3, if_pos rfl]) ?_
    refine Ev.bind (ref_begin s hs t h1 h2 k.f2 (by omega) (by omega) k.f5) ?_
    rw [hw1, hw2]
    by_cases hc : ((begN s t k.f2 k.f5 : Nat) : Int) > (s.size : Int) - k.f3
    · have : max F (toI s t k) = (s.size : Int) := by omega
      rw [this, if_pos hc, if_neg (by omega)]; exact Ev.now _
    · rw [if_neg hc]
      by_cases hd : ((begN s t k.f2 k.f5 : Nat) : Int) + k.f3 < F
      · have : max F (toI s t k) = F := by omega
        rw [this, if_pos hd]; exact Ev.now _
      · have : max F (toI s t k) = ((begN s t k.f2 k.f5 : Nat) : Int) + k.f3 := by omega
        rw [this, if_neg hd]; exact Ev.now _
theorem ref_span2 (s : ByteArray) (hs : s.size ≤ 1048576) (t : Int) (h1 : -1 ≤ t) (h2 : t ≤ 255) (k : Ky) (hk : Fit k) (F T : Int) (hF0 : 0 ≤ F) (hF : F ≤ s.size) (hT : ¬ (k.f2 > 0 ∧ k.f3 > 0) → T = toI s t k) :
    Ev (fun n => millref5_Span.j2 n s (spans (fieldsL s t)) F T k.f0 k.f1 k.f2 k.f3 k.f4 k.f5) (F, max F (toI s t k)) := by
  by_cases hp : k.f2 > 0
  · refine Ev.step (f := fun n => millref5_Span.j3 n s (spans (fieldsL s t)) F T (decide (k.f3 > 0)) k.f0 k.f1 k.f2 k.f3 k.f4 k.f5) (fun n => by rw [millref5_Span.j2, if_pos hp]) ?_
    refine ref_span3 s hs t h1 h2 k hk F T hF0 hF _ ?_ ?_
    · by_cases hq : k.f3 > 0
      · rw [decide_eq_true hq, decide_eq_true ⟨hp, hq⟩]
      · rw [decide_eq_false hq, decide_eq_false (fun h => hq h.2)]
    · intro hd; exact hT (fun h => by have := of_decide_eq_false hd; exact this h.2)
  · refine Ev.step (f := fun n => millref5_Span.j3 n s (spans (fieldsL s t)) F T false k.f0 k.f1 k.f2 k.f3 k.f4 k.f5) (fun n => by rw [millref5_Span.j2, if_neg hp]) ?_
    exact ref_span3 s hs t h1 h2 k hk F T hF0 hF false (by rw [decide_eq_false (fun h => hp h.1)]) (fun _ => hT (fun h => hp h.1))
theorem ref_span0 (s : ByteArray) (hs : s.size ≤ 1048576) (t : Int) (h1 : -1 ≤ t) (h2 : t ≤ 255) (k : Ky) (hk : Fit k) (F : Int) (hF0 : 0 ≤ F) (hF : F ≤ s.size) :
    Ev (fun n => millref5_Span.j0 n s (spans (fieldsL s t)) F k.f0 k.f1 k.f2 k.f3 k.f4 k.f5) (F, max F (toI s t k)) := by
  have he := hk.e; have hf := hk.f; have hg := hk.g
  have hl : (spans (fieldsL s t)).length = (fieldsL s t).length := by simp [spans]
  have away : (¬ (k.f2 > 0 ∧ k.f3 > 0) → (s.size : Int) = toI s t k) → Ev (fun n => millref5_Span.j1 n s (spans (fieldsL s t)) F (s.size : Int) false k.f0 k.f1 k.f2 k.f3 k.f4 k.f5) (F, max F (toI s t k)) := fun hT =>
    Ev.step (f := fun n => millref5_Span.j2 n s (spans (fieldsL s t)) F (s.size : Int) k.f0 k.f1 k.f2 k.f3 k.f4 k.f5) (fun n => by rw [millref5_Span.j1, if_neg (by decide)]) (ref_span2 s hs t h1 h2 k hk F _ hF0 hF hT)
  by_cases hp : k.f2 > 0
  · by_cases hz : k.f3 = 0
    · have hto : toI s t k = match (fieldsL s t)[(k.f2 - 1).toNat]? with | some p => (p.2 : Int) | none => (s.size : Int) := by unfold toI; rw [if_pos hp, if_neg (by omega)]
      have hw := wrap64_id (x := k.f2 - 1) (by omega) (by omega)
      refine Ev.step (f := fun n => millref5_Span.j1 n s (spans (fieldsL s t)) F (s.size : Int) (decide (k.f2 ≤ ((fieldsL s t).length : Int))) k.f0 k.f1 k.f2 k.f3 k.f4 k.f5) (fun n => by rw [millref5_Span.j0, if_pos hp, if_pos hz, hl]) ?_
      by_cases hle : k.f2 ≤ ((fieldsL s t).length : Int)
      · have hlt : (k.f2 - 1).toNat < (fieldsL s t).length := by omega
        rw [decide_eq_true hle]
        rw [List.getElem?_eq_getElem hlt] at hto
        refine Ev.step (f := fun n => millref5_Span.j2 n s (spans (fieldsL s t)) F (toI s t k) k.f0 k.f1 k.f2 k.f3 k.f4 k.f5) (fun n => by
          rw [millref5_Span.j1, if_pos rfl, hl, hw, if_pos (by omega), if_pos (by omega), rd_spans _ _ (k.f2 - 1) rfl hlt, hto]; rfl) ?_
        exact ref_span2 s hs t h1 h2 k hk F _ hF0 hF (fun _ => rfl)
      · rw [decide_eq_false hle]
        rw [List.getElem?_eq_none (by omega)] at hto
        exact away (fun _ => hto.symm)
    · exact Ev.step (f := fun n => millref5_Span.j1 n s (spans (fieldsL s t)) F (s.size : Int) false k.f0 k.f1 k.f2 k.f3 k.f4 k.f5) (fun n => by rw [millref5_Span.j0, if_pos hp, if_neg hz]) (away (fun h => absurd ⟨hp, by omega⟩ h))
  · exact Ev.step (f := fun n => millref5_Span.j1 n s (spans (fieldsL s t)) F (s.size : Int) false k.f0 k.f1 k.f2 k.f3 k.f4 k.f5) (fun n => by rw [millref5_Span.j0, if_neg hp]) (away (fun _ => by unfold toI; rw [if_neg hp]))
theorem ref_span (s : ByteArray) (hs : s.size ≤ 1048576) (t : Int) (h1 : -1 ≤ t) (h2 : t ≤ 255) (k : Ky) (hk : Fit k) (mk : Nat) (hm : k.f4 = (mk : Int)) (hm2 : mk < 1024) :
    Ev (fun n => millref5_Span.f n s k.f0 k.f1 k.f2 k.f3 k.f4 k.f5 t) (spanI s t k) := by
  have ha := hk.a; have hb := hk.b; have hc := hk.c; have hd := hk.d
  have hbl := beg_le s t k.f0 (modB k.f4)
  have hw1 := wrap64_id (x := k.f1 - 1) (by omega) (by omega)
  have hw2 : wrap64 ((s.size : Int) - (k.f1 - 1)) = (s.size : Int) - (k.f1 - 1) := by unfold wrap64; omega
  have hw3 := wrap64_id (x := ((begN s t k.f0 (modB k.f4) : Nat) : Int) + k.f1) (by omega) (by omega)
  have hw4 := wrap64_id (x := ((begN s t k.f0 (modB k.f4) : Nat) : Int) + k.f1 - 1) (by omega) (by omega)
  have hh : millref5_has.f k.f4 1 = some (modB k.f4) := by rw [hm]; exact has_one mk hm2
  refine Ev.congr (f := fun n => (millref5_Fields.f n s t).bind fun t136 => (millref5_begin.f n s t136 k.f0 (modB k.f4)).bind fun t140 => (if t140 > (wrap64 ((s.size : Int) - (wrap64 (k.f1 - 1)))) then (millref5_Span.j0 n s t136 (s.size : Int) k.f0 k.f1 k.f2 k.f3 k.f4 k.f5) else (millref5_Span.j0 n s t136 (wrap64 ((wrap64 (t140 + k.f1)) - 1)) k.f0 k.f1 k.f2 k.f3 k.f4 k.f5))) (fun n => by rw [millref5_Span.f]; simp only [hh, Option.bind_some]) ?_
  refine Ev.bind (fields_ref s hs t) ?_
  refine Ev.bind (ref_begin s hs t h1 h2 k.f0 ha hb (modB k.f4)) ?_
  rw [hw1, hw2, hw3, hw4]
  unfold spanI
  by_cases hx : ((begN s t k.f0 (modB k.f4) : Nat) : Int) > (s.size : Int) - (k.f1 - 1)
  · have hf : fromI s t k = (s.size : Int) := by unfold fromI; omega
    simp only [if_pos hx]
    rw [hf]
    exact ref_span0 s hs t h1 h2 k hk _ (by omega) (Int.le_refl _)
  · have hf : fromI s t k = ((begN s t k.f0 (modB k.f4) : Nat) : Int) + k.f1 - 1 := by unfold fromI; omega
    simp only [if_neg hx]
    rw [hf]
    exact ref_span0 s hs t h1 h2 k hk _ (by omega) (by omega)
end Go.Proofs.YtnnoegjgaelafaaDoor.Pr
