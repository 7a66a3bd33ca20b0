/- The law's upper: small letters large. -/
import Derived.Test.YtnnoegjgaelafaaDoorCols
import Derived.Lib.ConvBytes
import Derived.Lib.SlBytesRow
namespace Go.Proofs.YtnnoegjgaelafaaDoor.Pr
open Go.RowKit Go.Proofs.YtnnoegjgaelafaaDoorW.PrintWords Go.Proofs.YtnnoegjgaelafaaDoorW.PrintLast
set_option linter.unusedVariables false
set_option linter.unusedSimpArgs false

/-- The row that a conversion makes of a string, at w's end; N: its cells; xs: what the first ones hold. -/
structure UpAt (w wr : World) (N n : Nat) (xs : List Int) : Prop where
  below : Below w.heap.size w wr
  len : xs.length = n
  le : n ≤ N
  blk : ∃ cs : Array Value, cs.size = N ∧ wr.heap[w.heap.size]? = some (.cells cs 5 (N, N + 1)) ∧ ∀ j, j < n → cs[j]? = some (.int .u8 (xs.getD j 0))
theorem UpAt.cell {w wr : World} {N n : Nat} {xs : List Int} (h : UpAt w wr N n xs) (j : Nat) (hj : j < n) : wr.cell? ⟨w.heap.size, j, none⟩ = some (.int .u8 (xs.getD j 0)) := by
  obtain ⟨cs, _, hb, hc⟩ := h.blk
  rw [cell_of_row wr _ j cs _ _ hb]; exact hc j hj
theorem UpAt.froz {w wr : World} {N n : Nat} {xs : List Int} (h : UpAt w wr N n xs) (j : Nat) (hj : j < n) : wr.frozen? ⟨w.heap.size, j, none⟩ = false := by
  obtain ⟨cs, _, hb, hc⟩ := h.blk
  have := h.le
  unfold World.frozen?
  simp only [hb]
  simp; omega
theorem UpAt.put {w wr : World} {N n : Nat} {xs : List Int} (h : UpAt w wr N n xs) (i : Nat) (hi : i < n) (x : Int) : UpAt w (wr.setCell ⟨w.heap.size, i, none⟩ (.int .u8 x)) N n (xs.set i x) := by
  obtain ⟨cs, hs, hb, hc⟩ := h.blk
  have hle := h.le
  refine ⟨below_set h.below (Nat.le_refl _), by rw [List.length_set]; exact h.len, h.le, cs.setIfInBounds i (.int .u8 x), by simp [hs], ?_, fun j hj => ?_⟩
  · simp [World.setCell, Array.getElem?_modify, hb]
  · have hl := h.len
    by_cases hij : i = j
    · subst hij
      rw [Array.getElem?_setIfInBounds_self_of_lt (by omega)]
      simp [List.getD_eq_getElem?_getD, hl, hi]
    · rw [Array.getElem?_setIfInBounds_ne hij, hc j hj]
      simp [List.getD_eq_getElem?_getD, List.getElem?_set_ne hij]
theorem UpAt.drew {w wr : World} {N n : Nat} {xs : List Int} (h : UpAt w wr N n xs) : UpAt w wr.drew N n xs := ⟨h.below.drew, h.len, h.le, h.blk⟩
theorem up_first (w : World) (s : ByteArray) : ∃ N, s.size ≤ N ∧ UpAt w (Lib.bytesWorld w 5 s) N s.size (nums s) := by
  refine ⟨(Lib.bytesCells w 5 s).size, ?_, ?_⟩
  · unfold Lib.bytesCells; simp
  · have hle : s.size ≤ (Lib.bytesCells w 5 s).size := by unfold Lib.bytesCells; simp
    refine ⟨⟨rfl, rfl, rfl, ?_, fun k hk => Lib.bytesWorld_at_old w _ s k hk⟩, nums_length s, hle, _, rfl, Lib.bytesWorld_at_new w _ s, fun j hj => ?_⟩
    · rw [Lib.bytesWorld_size]; omega
    · have h := Lib.bytesWorld_cell w 5 s j hj
      rw [cell_of_row _ _ j _ _ _ (Lib.bytesWorld_at_new w _ s)] at h
      rw [h]
      have e := nums_at s j hj
      rw [List.getD_eq_getElem?_getD (l := nums s), e]
      have e2 : s.data.toList.getD j 0 = s[j] := by rw [List.getD_eq_getElem?_getD, Array.getElem?_toList, Array.getElem?_eq_getElem hj]; rfl
      rw [e2]; rfl
def upTo (l : List Int) (i : Nat) : List Int := (l.take i).map (foldB true) ++ l.drop i
theorem upTo_len (l : List Int) (i : Nat) : (upTo l i).length = l.length := by simp [upTo]; omega
theorem upTo_at (l : List Int) (i : Nat) (h : i < l.length) : (upTo l i).getD i 0 = l[i] := by
  unfold upTo
  rw [List.getD_eq_getElem?_getD, List.getElem?_append_right (by simp; omega)]
  simp [show i - min i l.length = 0 by omega, h]
theorem upTo_set (l : List Int) (i : Nat) (h : i < l.length) : (upTo l i).set i (foldB true l[i]) = upTo l (i + 1) := by
  unfold upTo
  rw [List.set_append_right _ _ (by simp; omega)]
  simp only [List.length_map, List.length_take]
  rw [show i - min i l.length = 0 by omega, List.drop_eq_getElem_cons h, List.set_cons_zero, ← List.take_append_getElem h, List.map_append, List.append_assoc]
  rfl
theorem upTo_keep (l : List Int) (i : Nat) (h : i < l.length) (hk : foldB true l[i] = l[i]) : upTo l (i + 1) = upTo l i := by
  rw [← upTo_set l i h, hk]
  have : (upTo l i)[i]'(by rw [upTo_len]; exact h) = l[i] := by
    have e := upTo_at l i h
    rw [List.getD_eq_getElem?_getD, List.getElem?_eq_getElem (by rw [upTo_len]; exact h)] at e
    simpa using e
  conv => lhs; rw [← this]
  exact List.set_getElem_self _
theorem upTo_all (s : ByteArray) : filtS false false true s = strOfNums (upTo (nums s) s.size) := by
  have e : filtL false false true (nums s) = (nums s).map (foldB true) := by
    unfold filtL
    congr 1
    exact List.filter_eq_self.2 (fun x _ => rfl)
  unfold filtS upTo
  rw [e, List.take_of_length_le (Nat.le_of_eq (nums_length s)), List.drop_of_length_le (Nat.le_of_eq (nums_length s)), List.append_nil]
set_option maxHeartbeats 4000000 in
set_option maxRecDepth 100000 in
theorem upper_calls (s : ByteArray) (hs : s.size ≤ 1048576) (w : World) :
    Calls Tryd.prog 18 #[.string s] w fun e w' => e = .returned (.string (filtS false false true s)) ∧ Below w.heap.size w w' := by
  have hcv := Lib.run_convert_string_bytes (P := Tryd.prog) w 9 75 5 s Tryd.underlying9 Tryd.underlying75 Tryd.underlying5
  obtain ⟨N, hN, hU⟩ := up_first w s
  have HU := Aside0.mk hU
  clear hU
  generalize grownCap w s.size 0 5 = cap at *
  go_enter Tryd.func18, Tryd.ntmps18
  go_wp2
  generalize Lib.bytesWorld w 5 s = W0 at *
  clear hcv
  go_loopw [4] (fun v wr => ∃ i : Nat, v = .int .i64 i ∧ i ≤ s.size ∧ Aside0 (UpAt w wr N s.size (upTo (nums s) i))) (fun v _ => s.size - (intOf v).toNat)
  case atStart => exact ⟨0, rfl, Nat.zero_le _, ⟨by have := HU.out; simpa [upTo] using this⟩⟩
  case round =>
    clear HU
    obtain ⟨i, rfl, hi, HU⟩ := hrel
    by_cases hlt : i < s.size
    · have HLT := Aside0.mk hlt
      have hln : i < (nums s).length := by rw [nums_length]; exact hlt
      have hc := HU.out.cell i hlt
      have hf := HU.out.froz i hlt
      rw [upTo_at _ _ hln] at hc
      have hr : 0 ≤ (nums s)[i] ∧ (nums s)[i] ≤ 255 := by
        have e := nums_at s i hlt
        rw [List.getElem?_eq_getElem hln, Option.some.injEq] at e
        have := s[i].toNat_lt
        omega
      have HS := Aside0.mk (upTo_set (nums s) i hln)
      have HK := Aside0.mk (upTo_keep (nums s) i hln)
      have hd : decide (i < s.size) = true := decide_eq_true hlt
      generalize (nums s)[i] = x at *
      by_cases ha : 97 ≤ x
      · have hxa : decide (97 ≤ x) = true := decide_eq_true ha
        by_cases hz : x ≤ 122
        · have hxz : decide (x ≤ 122) = true := decide_eq_true hz
          have hfo : foldB true x = x - 32 := by simp [foldB]; omega
          have hU2 := HU.out.put i hlt (x - 32)
          rw [← hfo, HS.out] at hU2
          have HU2 := Aside0.mk hU2
          have hw : (x - 32) % 256 = x - 32 := by omega
          rw [hfo] at HU2
          clear hU2 hfo HS HK
          go_wp2
          exact ⟨⟨i + 1, by go_num, HLT.out, HU2⟩, by simp [intOf]; omega⟩
        · have hxz : decide (x ≤ 122) = false := decide_eq_false hz
          have HK2 := Aside0.mk (HK.out (by simp [foldB]; omega))
          clear HS HK
          go_wp2
          exact ⟨⟨i + 1, by go_num, HLT.out, ⟨by rw [HK2.out]; exact HU.out⟩⟩, by simp [intOf]; omega⟩
      · have hxa : decide (97 ≤ x) = false := decide_eq_false ha
        have HK2 := Aside0.mk (HK.out (by simp [foldB]; omega))
        clear HS HK
        go_wp2
        exact ⟨⟨i + 1, by go_num, HLT.out, ⟨by rw [HK2.out]; exact HU.out⟩⟩, by simp [intOf]; omega⟩
    · have hge : i = s.size := by omega
      subst hge
      have hd : decide (s.size < s.size) = false := decide_eq_false (Nat.lt_irrefl _)
      have hcv := run_convert_bytes_arg (P := Tryd.prog) wr 75 5 Tryd.underlying75 Tryd.underlying5 w.heap.size 0 s.size cap (upTo (nums s) s.size) HU.out.len (fun j hj => by rw [Nat.zero_add]; exact HU.out.cell j hj) 9 Tryd.underlying9
      go_wp2
      go_ret
      exact ⟨by rw [upTo_all]; rfl, HU.out.below⟩
end Go.Proofs.YtnnoegjgaelafaaDoor.Pr
