/- For CollateBlind: comparison of plain texts; dropped; what filters do twice. -/
import Derived.Test.YtnnoegjgaelafaaDoorKeys
import Derived.Test.YtnnoegjgaelafaaDoorUpper
import Derived.Test.YtnnoegjgaelafaaDoorPrx14
namespace Go.Proofs.YtnnoegjgaelafaaDoor.Pr
open Go.RowKit Go.Proofs.YtnnoegjgaelafaaDoorW.PrintWords Go.Proofs.YtnnoegjgaelafaaDoorW.PrintLast
set_option linter.unusedVariables false
set_option linter.unusedSimpArgs false

theorem cmpB_rng : ∀ a b : List UInt8, -1 ≤ Lib.compareBytes a b ∧ Lib.compareBytes a b ≤ 1
  | [], [] => by simp [Lib.compareBytes]
  | [], _ :: _ => by simp [Lib.compareBytes]
  | _ :: _, [] => by simp [Lib.compareBytes]
  | a :: xs, b :: ys => by
    unfold Lib.compareBytes
    split
    · simp
    · split
      · simp
      · exact cmpB_rng xs ys
theorem cmpB_zero : ∀ a b : List UInt8, Lib.compareBytes a b = 0 ↔ a = b
  | [], [] => by simp [Lib.compareBytes]
  | [], _ :: _ => by simp [Lib.compareBytes]
  | _ :: _, [] => by simp [Lib.compareBytes]
  | a :: xs, b :: ys => by
    unfold Lib.compareBytes
    split
    · rename_i h
      constructor
      · intro h2; simp at h2
      · intro h2; injection h2 with h3; subst h3; exact absurd h (UInt8.lt_irrefl _)
    · rename_i h
      split
      · rename_i h2
        constructor
        · intro h3; simp at h3
        · intro h3; injection h3 with h4; subst h4; exact absurd h2 (UInt8.lt_irrefl _)
      · rename_i h2
        rw [cmpB_zero xs ys]
        have hab : a = b := UInt8.le_antisymm (UInt8.not_lt.1 h2) (UInt8.not_lt.1 h)
        subst hab
        simp
def cmpS (a b : ByteArray) : Int := Lib.compareBytes a.data.toList b.data.toList
theorem cmpS_zero (a b : ByteArray) : cmpS a b = 0 ↔ a = b := by
  unfold cmpS
  rw [cmpB_zero]
  constructor
  · intro h; exact ByteArray.ext (Array.toList_inj.1 h)
  · rintro rfl; rfl
set_option maxHeartbeats 4000000 in
set_option maxRecDepth 100000 in
theorem compare0_calls (a b : ByteArray) (w : World) : Calls Tryd.prog 54 #[.int .u16 0, .string a, .string b] w fun e w' => e = .returned (.int .i64 (cmpS a b)) ∧ Below w.heap.size w w' := by
  have HC := Aside0.mk (fun W => Tryd.strings_Compare a b W)
  go_enter Tryd.func54, Tryd.ntmps54
  go_wp2_with (first
    | (go_at_call 41; refine Calls.mono (HC.out _) ?_; rintro e w1 ⟨rfl, rfl⟩))
  go_ret
  exact ⟨rfl, Below.refl _ _⟩
def cmp0 : Cmp where
  G := fun _ => True
  stay := fun _ _ => trivial
  ks := fun k => k = 0
  cmp := fun _ a b => cmpS a b
  rng := fun _ a b => cmpB_rng _ _
  calls := fun k a b W hk _ _ _ => by subst hk; exact compare0_calls a b W
theorem nums_range (s : ByteArray) : ∀ x ∈ nums s, 0 ≤ x ∧ x < 256 := by
  intro x hx
  obtain ⟨b, _, rfl⟩ := List.mem_map.1 hx
  have := b.toNat_lt
  omega
theorem nums_strOf (l : List Int) (h : ∀ x ∈ l, 0 ≤ x ∧ x < 256) : nums (strOfNums l) = l := by
  unfold nums
  rw [strOfNums_data, List.map_map]
  conv => rhs; rw [← List.map_id l]
  apply List.map_congr_left
  intro x hx
  have := h x hx
  simp
  omega
theorem fold_range (f : Bool) (x : Int) (h : 0 ≤ x ∧ x < 256) : 0 ≤ foldB f x ∧ foldB f x < 256 := by
  unfold foldB
  split
  · rename_i h2; simp at h2; omega
  · exact h
theorem filt_range (d i f : Bool) (l : List Int) (h : ∀ x ∈ l, 0 ≤ x ∧ x < 256) : ∀ x ∈ filtL d i f l, 0 ≤ x ∧ x < 256 := by
  intro x hx
  obtain ⟨y, hy, rfl⟩ := List.mem_map.1 hx
  exact fold_range f y (h y (List.mem_filter.1 hy).1)
theorem keep_fold (d i f : Bool) (x : Int) (h : keepB d i x = true) : keepB d i (foldB f x) = true := by
  unfold foldB
  split
  · rename_i h2
    simp at h2
    unfold keepB at h ⊢
    cases d
    · cases i
      · rfl
      · simp at h ⊢; omega
    · simp at h ⊢; omega
  · exact h
theorem fold_fold (f : Bool) (x : Int) : foldB f (foldB f x) = foldB f x := by
  cases f
  · simp [foldB]
  · by_cases h : 97 ≤ x ∧ x ≤ 122
    · have e : foldB true x = x - 32 := by unfold foldB; rw [if_pos (by simp; omega)]
      rw [e]
      unfold foldB; rw [if_neg (by simp; omega)]
    · have e : foldB true x = x := by unfold foldB; rw [if_neg (by simp; omega)]
      rw [e, e]
theorem filtL_twice (d i f : Bool) (l : List Int) : filtL d i f (filtL d i f l) = filtL d i f l := by
  induction l with
  | nil => rfl
  | cons x r ih =>
    cases h : keepB d i x
    · have e : filtL d i f (x :: r) = filtL d i f r := by simp [filtL, h]
      rw [e, ih]
    · have e : filtL d i f (x :: r) = foldB f x :: filtL d i f r := by simp [filtL, h]
      have e2 : filtL d i f (foldB f x :: filtL d i f r) = foldB f (foldB f x) :: filtL d i f (filtL d i f r) := by simp [filtL, keep_fold d i f x h]
      rw [e, e2, fold_fold, ih]
theorem filtS_twice (d i f : Bool) (s : ByteArray) : filtS d i f (filtS d i f s) = filtS d i f s := by
  unfold filtS
  rw [nums_strOf _ (filt_range d i f _ (nums_range s)), filtL_twice]
theorem filtS_up (d i : Bool) (s : ByteArray) : filtS false false true (filtS d i false s) = filtS d i true s := by
  unfold filtS
  rw [nums_strOf _ (filt_range d i false _ (nums_range s))]
  congr 1
  have h2 : foldB false = id := by funext x; simp [foldB]
  unfold filtL
  rw [h2, List.map_id]
  congr 1
  exact List.filter_eq_self.2 (fun x _ => rfl)
theorem filtS_none (s : ByteArray) : filtS false false false s = s := by unfold filtS; rw [filt_none, strOf_nums]
theorem take_one (s : ByteArray) (i : Nat) (h : i < s.size) : (nums s).drop i = ((s[i].toNat : Nat) : Int) :: (nums s).drop (i + 1) := by
  have hi : i < (nums s).length := by rw [nums_length]; exact h
  have e := nums_at s i h
  rw [List.getElem?_eq_getElem hi, Option.some.injEq] at e
  rw [List.drop_eq_getElem_cons hi, e]
theorem keep_next (dict : Bool) (xs rest : List Int) (x : Int) (h : keepB dict true x = true) : xs ++ filtL dict true false (x :: rest) = (xs ++ [x]) ++ filtL dict true false rest := by
  simp [filtL, h, foldB]
theorem drop_next (dict : Bool) (xs rest : List Int) (x : Int) (h : keepB dict true x = false) : xs ++ filtL dict true false (x :: rest) = xs ++ filtL dict true false rest := by
  simp [filtL, h]
theorem drop_j1 (k : Nat) (s : ByteArray) (dict : Bool) (xs : List Int) (i x : Int) (p : Bool) (hp : dict = false → p = keepB false true x) (hl : xs.length < 140737488355328) :
    milllaw5_dropped.j1 (k + 1) s dict xs i x p = if keepB dict true x = true then milllaw5_dropped.l0 k s dict (xs ++ [x]) (wrap64 (i + 1)) else milllaw5_dropped.l0 k s dict xs (wrap64 (i + 1)) := by
  rw [milllaw5_dropped.j1]
  cases dict
  · rw [if_neg (by decide), hp rfl, if_pos hl]
  · rw [if_pos rfl]
    simp only [if_pos hl]
    generalize milllaw5_dropped.l0 k s true (xs ++ [x]) (wrap64 (i + 1)) = A
    generalize milllaw5_dropped.l0 k s true xs (wrap64 (i + 1)) = B
    repeat' split
    all_goals first
      | rfl
      | (rename_i h; exfalso; simp [keepB] at h; omega)
theorem drop_loop (s : ByteArray) (hs : s.size ≤ 1048576) (dict : Bool) : ∀ (n i : Nat) (xs : List Int), s.size - i = n → i ≤ s.size → xs.length ≤ i →
    Ev (fun k => milllaw5_dropped.l0 k s dict xs (i : Int)) (strOfNums (xs ++ filtL dict true false ((nums s).drop i)))
  | 0, i, xs, hn, hi, hx => by
    have e : (nums s).drop i = [] := List.drop_of_length_le (by rw [nums_length]; omega)
    rw [e]
    refine Ev.step (f := fun _ => some (strOfNums xs)) (fun k => by rw [milllaw5_dropped.l0, if_neg (by omega)]) ?_
    have : filtL dict true false [] = [] := rfl
    rw [this, List.append_nil]
    exact Ev.now _
  | n + 1, i, xs, hn, hi, hx => by
    have hlt : i < s.size := by omega
    have hw : wrap64 ((i : Int) + 1) = ((i + 1 : Nat) : Int) := by rw [wrap64_id (by omega) (by omega)]; rfl
    have hb := bt_nat s i hlt
    rw [take_one s i hlt]
    generalize ((s[i].toNat : Nat) : Int) = x at hb ⊢
    have hstep : ∀ k, milllaw5_dropped.l0 (k + 1) s dict xs (i : Int) = milllaw5_dropped.j1 k s dict xs (i : Int) x (decide (32 ≤ x) && decide (x ≤ 126)) := fun k => by
      rw [milllaw5_dropped.l0, if_pos (by omega), if_pos (by omega), hb]
      by_cases h : x ≥ 32
      · rw [if_pos h, decide_eq_true (show 32 ≤ x from h)]; rfl
      · rw [if_neg h, decide_eq_false (show ¬ 32 ≤ x from h)]; rfl
    refine Ev.step (f := fun k => milllaw5_dropped.j1 k s dict xs (i : Int) x (decide (32 ≤ x) && decide (x ≤ 126))) hstep ?_
    cases hk : keepB dict true x
    · rw [drop_next dict xs _ x hk]
      refine Ev.step (f := fun k => milllaw5_dropped.l0 k s dict xs ((i + 1 : Nat) : Int)) (fun k => by rw [drop_j1 k s dict xs (i : Int) x (decide (32 ≤ x) && decide (x ≤ 126)) (fun _ => rfl) (by omega), hk, if_neg (by decide), hw]) ?_
      exact drop_loop s hs dict n (i + 1) xs (by omega) (by omega) (by omega)
    · rw [keep_next dict xs _ x hk]
      refine Ev.step (f := fun k => milllaw5_dropped.l0 k s dict (xs ++ [x]) ((i + 1 : Nat) : Int)) (fun k => by rw [drop_j1 k s dict xs (i : Int) x (decide (32 ≤ x) && decide (x ≤ 126)) (fun _ => rfl) (by omega), hk, if_pos rfl, hw]) ?_
      exact drop_loop s hs dict n (i + 1) _ (by omega) (by omega) (by rw [List.length_append]; simp; omega)
theorem keep_dict (x : Int) : keepB true true x = keepB true false x := rfl
theorem dropped_calls (s : ByteArray) (hs : s.size ≤ 1048576) (dict : Bool) (w : World) : Calls Tryd.prog 17 #[.string s, .bool dict] w fun e w' => e = .returned (.string (filtS dict (!dict) false s)) ∧ Below w.heap.size w w' := by
  obtain ⟨K, hK⟩ := drop_loop s hs dict s.size 0 [] rfl (Nat.zero_le _) (Nat.zero_le _)
  have e : strOfNums ([] ++ filtL dict true false ((nums s).drop 0)) = filtS dict (!dict) false s := by cases dict <;> rfl
  rw [e] at hK
  exact milllaw5_dropped.calls K s dict _ w (hK K (Nat.le_refl _))
end Go.Proofs.YtnnoegjgaelafaaDoor.Pr
