/- Orders on three answers, and that comparisons of numbers, bytes, sizes are such. Pure. -/
import Derived.Lib.Bytealg
import Derived.Lib.Small
import Derived.Lib.TrimByte
namespace Go.Proofs.YtnnoegjgaelafaaDoor.Pr
set_option linter.unusedVariables false

/-- Three answers, of a and b, of b and d, of a and d, fit together. -/
structure Tri (x y z : Int) : Prop where
  l0 : x = 0 → z = y
  r0 : y = 0 → z = x
  neg : x < 0 → y < 0 → z < 0
  pos : 0 < x → 0 < y → 0 < z
theorem Tri.turn {x y z : Int} (h : Tri x y z) : Tri (-x) (-y) (-z) :=
  ⟨fun e => by have := h.l0 (by omega); omega, fun e => by have := h.r0 (by omega); omega, fun a b => by have := h.pos (by omega) (by omega); omega, fun a b => by have := h.neg (by omega) (by omega); omega⟩
theorem Tri.le {x y z : Int} (h : Tri x y z) (a : x ≤ 0) (b : y ≤ 0) : z ≤ 0 := by
  by_cases hx : x = 0
  · rw [h.l0 hx]; exact b
  · by_cases hy : y = 0
    · rw [h.r0 hy]; exact a
    · have := h.neg (by omega) (by omega); omega
theorem tri_zero : Tri 0 0 0 := ⟨fun _ => rfl, fun _ => rfl, fun h => absurd h (by decide), fun h => absurd h (by decide)⟩
/-- First one, then the other. -/
theorem Tri.lexIf {x y z x' y' z' : Int} (h : Tri x y z) (h' : x = 0 → y = 0 → Tri x' y' z') : Tri (if x = 0 then x' else x) (if y = 0 then y' else y) (if z = 0 then z' else z) := by
  have a0 := h.l0; have b0 := h.r0; have c0 := h.neg; have d0 := h.pos
  by_cases hx : x = 0
  · have hz := a0 hx
    by_cases hy : y = 0
    · have hz0 : z = 0 := by omega
      rw [if_pos hx, if_pos hy, if_pos hz0]; exact h' hx hy
    · have hz0 : ¬ z = 0 := by omega
      rw [if_pos hx, if_neg hy, if_neg hz0]
      exact ⟨fun _ => hz, fun e => absurd e hy, fun _ e => by omega, fun _ e => by omega⟩
  · by_cases hy : y = 0
    · have hz := b0 hy
      have hz0 : ¬ z = 0 := by omega
      rw [if_neg hx, if_pos hy, if_neg hz0]
      exact ⟨fun e => absurd e hx, fun _ => hz, fun e _ => by omega, fun e _ => by omega⟩
    · by_cases hz0 : z = 0
      · rw [if_neg hx, if_neg hy, if_pos hz0]
        exact ⟨fun e => absurd e hx, fun e => absurd e hy, fun e1 e2 => by have := c0 e1 e2; omega, fun e1 e2 => by have := d0 e1 e2; omega⟩
      · rw [if_neg hx, if_neg hy, if_neg hz0]; exact h
theorem Tri.lex {x y z x' y' z' : Int} (h : Tri x y z) (h' : Tri x' y' z') : Tri (if x = 0 then x' else x) (if y = 0 then y' else y) (if z = 0 then z' else z) := h.lexIf fun _ _ => h'

theorem cmpI_zero (x y : Int) : Lib.compareInt x y = 0 ↔ x = y := by
  unfold Lib.compareInt; split
  · exact ⟨fun h => by omega, fun h => by omega⟩
  · split
    · exact ⟨fun h => by omega, fun h => by omega⟩
    · exact ⟨fun h => by omega, fun h => rfl⟩
theorem cmpI_self (x : Int) : Lib.compareInt x x = 0 := (cmpI_zero x x).2 rfl
theorem cmpI_rng (x y : Int) : -1 ≤ Lib.compareInt x y ∧ Lib.compareInt x y ≤ 1 := by
  unfold Lib.compareInt; split
  · omega
  · split <;> omega
theorem cmpI_anti (x y : Int) : Lib.compareInt y x = -(Lib.compareInt x y) := by
  unfold Lib.compareInt
  repeat' split
  all_goals omega
theorem cmpI_tri (x y z : Int) : Tri (Lib.compareInt x y) (Lib.compareInt y z) (Lib.compareInt x z) := by
  unfold Lib.compareInt
  constructor
  all_goals
    repeat' split
    all_goals omega
theorem cmpB_cons (a b : UInt8) (xs ys : List UInt8) : Lib.compareBytes (a :: xs) (b :: ys) = if Lib.compareInt (a.toNat : Int) (b.toNat : Int) = 0 then Lib.compareBytes xs ys else Lib.compareInt (a.toNat : Int) (b.toNat : Int) := by
  rw [Lib.compareBytes]
  unfold Lib.compareInt
  have h1 : a < b ↔ (a.toNat : Int) < (b.toNat : Int) := by rw [UInt8.lt_iff_toNat_lt]; omega
  have h2 : b < a ↔ (b.toNat : Int) < (a.toNat : Int) := by rw [UInt8.lt_iff_toNat_lt]; omega
  by_cases c1 : a < b
  · rw [if_pos c1, if_pos (h1.1 c1), if_neg (by omega)]
  · by_cases c2 : b < a
    · have := h2.1 c2
      rw [if_neg c1, if_pos c2, if_neg (fun h => c1 (h1.2 h)), if_pos this, if_neg (by omega)]
    · rw [if_neg c1, if_neg c2, if_neg (fun h => c1 (h1.2 h)), if_neg (fun h => c2 (h2.2 h)), if_pos rfl]
theorem cmpB_anti : ∀ a b : List UInt8, Lib.compareBytes b a = -(Lib.compareBytes a b)
  | [], [] => by simp [Lib.compareBytes]
  | [], _ :: _ => by simp [Lib.compareBytes]
  | _ :: _, [] => by simp [Lib.compareBytes]
  | a :: xs, b :: ys => by
    rw [cmpB_cons, cmpB_cons, cmpI_anti (a.toNat : Int) (b.toNat : Int), cmpB_anti xs ys]
    split <;> split <;> omega
theorem cmpB_tri : ∀ a b d : List UInt8, Tri (Lib.compareBytes a b) (Lib.compareBytes b d) (Lib.compareBytes a d)
  | [], [], [] => by simp [Lib.compareBytes]; exact tri_zero
  | [], [], _ :: _ => by simp [Lib.compareBytes]; constructor <;> omega
  | [], _ :: _, [] => by simp [Lib.compareBytes]; constructor <;> omega
  | [], b :: ys, d :: zs => by
    have h := cmpI_rng (b.toNat : Int) (d.toNat : Int)
    simp only [Lib.compareBytes]; constructor <;> intro h1 <;> (try intro h2) <;> (first | omega | (exfalso; omega) | skip)
  | _ :: _, [], [] => by simp [Lib.compareBytes]; constructor <;> omega
  | _ :: _, [], _ :: _ => by simp [Lib.compareBytes]; constructor <;> omega
  | a :: xs, b :: ys, [] => by
    simp only [Lib.compareBytes]; constructor <;> intro h1 <;> (try intro h2) <;> (first | omega | (exfalso; omega) | skip)
  | a :: xs, b :: ys, d :: zs => by
    rw [cmpB_cons, cmpB_cons, cmpB_cons]
    exact (cmpI_tri _ _ _).lex (cmpB_tri xs ys zs)

def or3 (x y z : Int) : Int := if x = 0 then (if y = 0 then z else y) else x
theorem or3_rng {x y z : Int} (hx : -1 ≤ x ∧ x ≤ 1) (hy : -1 ≤ y ∧ y ≤ 1) (hz : -1 ≤ z ∧ z ≤ 1) : -1 ≤ or3 x y z ∧ or3 x y z ≤ 1 := by
  unfold or3; split
  · split
    · exact hz
    · exact hy
  · exact hx
theorem or3_anti {x y z x' y' z' : Int} (hx : x' = -x) (hy : y' = -y) (hz : z' = -z) : or3 x' y' z' = -(or3 x y z) := by
  subst hx; subst hy; subst hz
  unfold or3
  repeat' split
  all_goals omega
theorem or3_tri {x y z x' y' z' x'' y'' z'' : Int} (hx : Tri x x' x'') (hy : Tri y y' y'') (hz : Tri z z' z'') : Tri (or3 x y z) (or3 x' y' z') (or3 x'' y'' z'') :=
  hx.lex (hy.lex hz)
/-- What order says of two sizes. -/
def ordL (s1 r1 e1 : Int) (d1 : List UInt8) (s2 r2 e2 : Int) (d2 : List UInt8) : Int :=
  if Lib.compareInt s1 s2 = 0 then s1 * or3 (Lib.compareInt r1 r2) (Lib.compareInt e1 e2) (Lib.compareBytes d1 d2) else Lib.compareInt s1 s2
theorem cmpB_rng : ∀ a b : List UInt8, -1 ≤ Lib.compareBytes a b ∧ Lib.compareBytes a b ≤ 1
  | [], [] => by simp [Lib.compareBytes]
  | [], _ :: _ => by simp [Lib.compareBytes]
  | _ :: _, [] => by simp [Lib.compareBytes]
  | a :: xs, b :: ys => by
    unfold Lib.compareBytes
    split
    · simp
    · split
      · simp
      · exact cmpB_rng xs ys
def sgn (s : Int) : Prop := s = -1 ∨ s = 0 ∨ s = 1
theorem ord_rng (s1 r1 e1 : Int) (d1 : List UInt8) (s2 r2 e2 : Int) (d2 : List UInt8) (h : sgn s1) : -1 ≤ ordL s1 r1 e1 d1 s2 r2 e2 d2 ∧ ordL s1 r1 e1 d1 s2 r2 e2 d2 ≤ 1 := by
  have h3 := or3_rng (cmpI_rng r1 r2) (cmpI_rng e1 e2) (cmpB_rng d1 d2)
  unfold ordL
  split
  · rcases h with rfl | rfl | rfl <;> omega
  · exact cmpI_rng _ _
theorem ord_anti (s1 r1 e1 : Int) (d1 : List UInt8) (s2 r2 e2 : Int) (d2 : List UInt8) : ordL s2 r2 e2 d2 s1 r1 e1 d1 = -(ordL s1 r1 e1 d1 s2 r2 e2 d2) := by
  unfold ordL
  rw [cmpI_anti s1 s2]
  by_cases h : Lib.compareInt s1 s2 = 0
  · have e := (cmpI_zero _ _).1 h
    rw [if_pos h, if_pos (by omega), or3_anti (cmpI_anti r1 r2) (cmpI_anti e1 e2) (cmpB_anti d1 d2), e, Int.mul_neg]
  · rw [if_neg h, if_neg (by omega)]
theorem ord_tri (s1 r1 e1 : Int) (d1 : List UInt8) (s2 r2 e2 : Int) (d2 : List UInt8) (s3 r3 e3 : Int) (d3 : List UInt8) (h : sgn s1) :
    Tri (ordL s1 r1 e1 d1 s2 r2 e2 d2) (ordL s2 r2 e2 d2 s3 r3 e3 d3) (ordL s1 r1 e1 d1 s3 r3 e3 d3) := by
  unfold ordL
  refine (cmpI_tri s1 s2 s3).lexIf fun e1' e2' => ?_
  have ea := (cmpI_zero _ _).1 e1'
  subst ea
  have h3 := or3_tri (cmpI_tri r1 r2 r3) (cmpI_tri e1 e2 e3) (cmpB_tri d1 d2 d3)
  rcases h with rfl | rfl | rfl
  · rw [Int.neg_one_mul, Int.neg_one_mul, Int.neg_one_mul]; exact h3.turn
  · rw [Int.zero_mul, Int.zero_mul, Int.zero_mul]; exact tri_zero
  · rw [Int.one_mul, Int.one_mul, Int.one_mul]; exact h3

def isDg (c : UInt8) : Bool := 48 ≤ c.toNat && c.toNat ≤ 57
def vN (l : List UInt8) : List UInt8 := l.takeWhile (fun c => !isDg c)
def vR (l : List UInt8) : List UInt8 := l.dropWhile (fun c => !isDg c)
def vD (l : List UInt8) : List UInt8 := (vR l).takeWhile isDg
def vM (l : List UInt8) : List UInt8 := (vR l).dropWhile isDg
theorem dropWhile_len {p : UInt8 → Bool} : ∀ l : List UInt8, (l.dropWhile p).length ≤ l.length
  | [] => by simp
  | a :: l => by
    rw [List.dropWhile_cons]; split
    · have := dropWhile_len (p := p) l; simp; omega
    · exact Nat.le_refl _
theorem vM_lt (a : UInt8) (l : List UInt8) : (vM (a :: l)).length ≤ l.length := by
  unfold vM vR
  cases h : isDg a
  · rw [List.dropWhile_cons, if_pos (by simp [h])]
    exact Nat.le_trans (dropWhile_len _) (dropWhile_len _)
  · rw [List.dropWhile_cons, if_neg (by simp [h]), List.dropWhile_cons, if_pos h]
    exact dropWhile_len _
theorem vM_len (l : List UInt8) (n : Nat) (h : l.length ≤ n + 1) : (vM l).length ≤ n := by
  cases l with
  | nil => exact Nat.zero_le _
  | cons a l => exact Nat.le_trans (vM_lt a l) (by simpa using h)
def hdR (rk : UInt8 → Int) : List UInt8 → Int
  | [] => 2
  | c :: _ => rk c
/-- What words says: by the ranks, the end as 2. -/
def wordL (rk : UInt8 → Int) : Nat → List UInt8 → List UInt8 → Int
  | 0, _, _ => 0
  | n + 1, a, b => if Lib.compareInt (hdR rk a) (hdR rk b) = 0 then wordL rk n a.tail b.tail else Lib.compareInt (hdR rk a) (hdR rk b)
theorem word_nil (rk : UInt8 → Int) : ∀ n, wordL rk n [] [] = 0
  | 0 => rfl
  | n + 1 => by rw [wordL, if_pos (cmpI_self _)]; exact word_nil rk n
theorem word_more (rk : UInt8 → Int) : ∀ (n m : Nat) (a b : List UInt8), a.length ≤ n → b.length ≤ n → n ≤ m → wordL rk m a b = wordL rk n a b
  | 0, m, a, b, ha, hb, _ => by
    have e1 : a = [] := List.length_eq_zero_iff.1 (by omega)
    have e2 : b = [] := List.length_eq_zero_iff.1 (by omega)
    rw [e1, e2, word_nil]; rfl
  | n + 1, 0, a, b, ha, hb, hm => by omega
  | n + 1, m + 1, a, b, ha, hb, hm => by
    rw [wordL, wordL, word_more rk n m a.tail b.tail (by simp; omega) (by simp; omega) (by omega)]
theorem word_rng (rk : UInt8 → Int) : ∀ (n : Nat) (a b : List UInt8), -1 ≤ wordL rk n a b ∧ wordL rk n a b ≤ 1
  | 0, _, _ => by simp [wordL]
  | n + 1, a, b => by
    rw [wordL]; split
    · exact word_rng rk n _ _
    · exact cmpI_rng _ _
theorem word_anti (rk : UInt8 → Int) : ∀ (n : Nat) (a b : List UInt8), wordL rk n b a = -(wordL rk n a b)
  | 0, _, _ => rfl
  | n + 1, a, b => by
    rw [wordL, wordL, cmpI_anti (hdR rk a) (hdR rk b), word_anti rk n]
    split <;> split <;> omega
theorem word_tri (rk : UInt8 → Int) : ∀ (n : Nat) (a b d : List UInt8), Tri (wordL rk n a b) (wordL rk n b d) (wordL rk n a d)
  | 0, _, _, _ => tri_zero
  | n + 1, a, b, d => (cmpI_tri _ _ _).lex (word_tri rk n _ _ _)
/-- What words says of whole runs. -/
def wordW (rk : UInt8 → Int) (a b : List UInt8) : Int := wordL rk (a.length + b.length) a b
theorem wordW_anti (rk : UInt8 → Int) (a b : List UInt8) : wordW rk b a = -(wordW rk a b) := by
  unfold wordW; rw [Nat.add_comm, word_anti]
theorem wordW_tri (rk : UInt8 → Int) (a b d : List UInt8) : Tri (wordW rk a b) (wordW rk b d) (wordW rk a d) := by
  unfold wordW
  rw [← word_more rk (a.length + b.length) (a.length + b.length + d.length) a b (by omega) (by omega) (by omega), ← word_more rk (b.length + d.length) (a.length + b.length + d.length) b d (by omega) (by omega) (by omega), ← word_more rk (a.length + d.length) (a.length + b.length + d.length) a d (by omega) (by omega) (by omega)]
  exact word_tri rk _ a b d
def one0 (l : List UInt8) : Int := if l.length = 0 then 0 else 1
/-- What runs says of two runs of digits. -/
def runL (a b : List UInt8) : Int :=
  if Lib.compareInt (one0 a) (one0 b) = 0 then (if Lib.compareInt ((Lib.trimLeftB a 48).length : Int) ((Lib.trimLeftB b 48).length : Int) = 0 then Lib.compareBytes (Lib.trimLeftB a 48) (Lib.trimLeftB b 48) else Lib.compareInt ((Lib.trimLeftB a 48).length : Int) ((Lib.trimLeftB b 48).length : Int)) else Lib.compareInt (one0 a) (one0 b)
theorem run_rng (a b : List UInt8) : -1 ≤ runL a b ∧ runL a b ≤ 1 := by
  unfold runL; split
  · split
    · exact cmpB_rng _ _
    · exact cmpI_rng _ _
  · exact cmpI_rng _ _
theorem run_anti (a b : List UInt8) : runL b a = -(runL a b) := by
  unfold runL
  rw [cmpI_anti (one0 a), cmpI_anti ((Lib.trimLeftB a 48).length : Int), cmpB_anti (Lib.trimLeftB a 48)]
  repeat' split
  all_goals omega
theorem run_tri (a b d : List UInt8) : Tri (runL a b) (runL b d) (runL a d) := (cmpI_tri _ _ _).lex ((cmpI_tri _ _ _).lex (cmpB_tri _ _ _))
/-- What versions says. -/
def versL (rk : UInt8 → Int) : Nat → List UInt8 → List UInt8 → Int
  | 0, _, _ => 0
  | n + 1, a, b => if (if wordW rk (vN a) (vN b) = 0 then runL (vD a) (vD b) else wordW rk (vN a) (vN b)) = 0 then versL rk n (vM a) (vM b) else (if wordW rk (vN a) (vN b) = 0 then runL (vD a) (vD b) else wordW rk (vN a) (vN b))
theorem vers_nil (rk : UInt8 → Int) : ∀ n, versL rk n [] [] = 0
  | 0 => rfl
  | n + 1 => by
    rw [versL]
    change (if (if wordW rk [] [] = 0 then runL [] [] else wordW rk [] []) = 0 then versL rk n [] [] else _) = 0
    have e1 : wordW rk [] [] = 0 := word_nil rk _
    have e2 : runL [] [] = 0 := by decide
    rw [if_pos (by rw [if_pos e1, e2])]
    exact vers_nil rk n
theorem vers_more (rk : UInt8 → Int) : ∀ (n m : Nat) (a b : List UInt8), a.length ≤ n → b.length ≤ n → n ≤ m → versL rk m a b = versL rk n a b
  | 0, m, a, b, ha, hb, _ => by
    have e1 : a = [] := List.length_eq_zero_iff.1 (by omega)
    have e2 : b = [] := List.length_eq_zero_iff.1 (by omega)
    rw [e1, e2, vers_nil]; rfl
  | n + 1, 0, a, b, ha, hb, hm => by omega
  | n + 1, m + 1, a, b, ha, hb, hm => by
    rw [versL, versL, vers_more rk n m (vM a) (vM b) (vM_len a n ha) (vM_len b n hb) (by omega)]
theorem vers_rng (rk : UInt8 → Int) : ∀ (n : Nat) (a b : List UInt8), -1 ≤ versL rk n a b ∧ versL rk n a b ≤ 1
  | 0, _, _ => by simp [versL]
  | n + 1, a, b => by
    have h1 := vers_rng rk n (vM a) (vM b)
    have h2 := run_rng (vD a) (vD b)
    have h3 : -1 ≤ wordW rk (vN a) (vN b) ∧ wordW rk (vN a) (vN b) ≤ 1 := word_rng rk _ _ _
    rw [versL]
    generalize wordW rk (vN a) (vN b) = x at *
    generalize runL (vD a) (vD b) = y at *
    generalize versL rk n (vM a) (vM b) = z at *
    repeat' split
    all_goals omega
theorem vers_anti (rk : UInt8 → Int) : ∀ (n : Nat) (a b : List UInt8), versL rk n b a = -(versL rk n a b)
  | 0, _, _ => rfl
  | n + 1, a, b => by
    rw [versL, versL, wordW_anti rk (vN a) (vN b), run_anti (vD a) (vD b), vers_anti rk n]
    generalize wordW rk (vN a) (vN b) = x
    generalize runL (vD a) (vD b) = y
    generalize versL rk n (vM a) (vM b) = z
    by_cases hx : x = 0
    · have hx' : -x = 0 := by omega
      rw [if_pos hx, if_pos hx']
      by_cases hy : y = 0
      · rw [if_pos hy, if_pos (by omega)]
      · rw [if_neg hy, if_neg (by omega)]
    · have hx' : ¬ -x = 0 := by omega
      rw [if_neg hx, if_neg hx', if_neg hx, if_neg hx']
theorem vers_tri (rk : UInt8 → Int) : ∀ (n : Nat) (a b d : List UInt8), Tri (versL rk n a b) (versL rk n b d) (versL rk n a d)
  | 0, _, _, _ => tri_zero
  | n + 1, a, b, d => ((wordW_tri rk (vN a) (vN b) (vN d)).lex (run_tri (vD a) (vD b) (vD d))).lex (vers_tri rk n _ _ _)
def versW (rk : UInt8 → Int) (a b : List UInt8) : Int := versL rk (a.length + b.length) a b
theorem versW_anti (rk : UInt8 → Int) (a b : List UInt8) : versW rk b a = -(versW rk a b) := by
  unfold versW; rw [Nat.add_comm, vers_anti]
theorem versW_tri (rk : UInt8 → Int) (a b d : List UInt8) : Tri (versW rk a b) (versW rk b d) (versW rk a d) := by
  unfold versW
  rw [← vers_more rk (a.length + b.length) (a.length + b.length + d.length) a b (by omega) (by omega) (by omega), ← vers_more rk (b.length + d.length) (a.length + b.length + d.length) b d (by omega) (by omega) (by omega), ← vers_more rk (a.length + d.length) (a.length + b.length + d.length) a d (by omega) (by omega) (by omega)]
  exact vers_tri rk _ a b d
end Go.Proofs.YtnnoegjgaelafaaDoor.Pr
