/- New in one statement; the document's Check in one statement. -/
import Derived.Test.YtnnoegjgaelafaaDoorNew2
import Derived.Test.YtnnoegjgaelafaaDoorChk2
namespace Go.Proofs.YtnnoegjgaelafaaDoor.Pr
open Go.RowKit Go.Proofs.YtnnoegjgaelafaaDoorW.PrintWords Go.Proofs.YtnnoegjgaelafaaDoorW.PrintLast
set_option linter.unusedVariables false
set_option linter.unusedSimpArgs false

theorem OrdW.below {w w1 : World} {g : Nat} {K : List Ky} {t : Int} {last turned : Bool} (h : OrdW w g K t last turned) (hb : Below w.heap.size w w1) : OrdW w1 g K t last turned := by
  obtain ⟨v, cols, h1, h3, h4⟩ := h
  exact ⟨v, cols, (hb.block g (Array.getElem?_eq_some_iff.1 h1).1).trans h1, Kd.R_below h3 hb, h4⟩
/-- An order of these options stands at g. -/
def Made (w : World) (l0 : List Ky) (m t : Int) (st un : Bool) (g : Nat) (w' : World) : Prop :=
  OrdW w' g (effKeys m (modB m) l0) t (!st && !un) (bits .and .u16 m 512 != 0) ∧ w.heap.size < g ∧ Below w.heap.size w w'
def NewPost (w : World) (l0 : List Ky) (m t : Int) (st un : Bool) (e : Ending) (w' : World) : Prop :=
  (chkB l0 m t = false ∧ NewBad w e w') ∨ (chkB l0 m t = true ∧ ∃ g, e = .returned (.tuple #[.pointer (some ⟨g, 0, none⟩), .int .i64 0]) ∧ Made w l0 m t st un g w')
theorem chk_false1 {l0 : List Ky} {m t : Int} (h : 16 < l0.length ∨ t < -1 ∨ 255 < t ∨ 1024 ≤ m) : chkB l0 m t = false := by
  unfold chkB
  rcases h with h | h | h | h
  · rw [decide_eq_false (by omega : ¬ l0.length ≤ 16)]; rfl
  · rw [decide_eq_false (by omega : ¬ -1 ≤ t)]; simp
  · rw [decide_eq_false (by omega : ¬ t ≤ 255)]; simp
  · rw [decide_eq_false (by omega : ¬ m < 1024)]; simp
theorem new_calls (A0 : Option Addr) (c0 : Nat) (l0 : List Ky) (m t : Int) (st un : Bool) (r : Rest) (w : World) (hr0 : Kd.C k33 w A0 l0.length l0) (hc0 : l0.length ≤ c0) (hl : l0.length ≤ 1000000) (mn : Nat) (hm : m = (mn : Int)) (hm2 : mn < 65536) (hk : ∀ k ∈ l0, ∃ n : Nat, k.f4 = (n : Int) ∧ n < 65536) :
    Calls Tryd.prog 29 #[.agg (optVal (.slice A0 l0.length c0) m t st un r)] w (NewPost w l0 m t st un) := by
  by_cases h1 : 16 < l0.length
  · exact (new_bad1 A0 l0.length c0 m t st un r w h1 (by omega)).mono (fun e w' h => .inl ⟨chk_false1 (.inl h1), h⟩)
  by_cases h2 : t < -1
  · exact (new_bad2 A0 l0.length c0 m t st un r w (by omega) h2).mono (fun e w' h => .inl ⟨chk_false1 (.inr (.inl h2)), h⟩)
  by_cases h3 : 255 < t
  · exact (new_bad3 A0 l0.length c0 m t st un r w (by omega) h3).mono (fun e w' h => .inl ⟨chk_false1 (.inr (.inr (.inl h3))), h⟩)
  have ha : (bits .andNot .u16 m 1023 == 0) = decide (mn < 1024) := by rw [hm]; exact and_small mn hm2
  by_cases h4 : 1024 ≤ mn
  · rw [decide_eq_false (by omega : ¬ mn < 1024)] at ha
    exact (new_bad4 A0 l0.length c0 m t st un r w (by omega) (by omega) (by omega) (by simp only [bne, ha]; rfl)).mono (fun e w' h => .inl ⟨chk_false1 (.inr (.inr (.inr (by omega)))), h⟩)
  rw [decide_eq_true (by omega : mn < 1024)] at ha
  have hb : (bits .andNot .u16 m 1023 != 0) = false := by simp only [bne, ha]; rfl
  have hchk : chkB l0 m t = (l0.all rightB && (effKeys m (modB m) l0).all (fun k => togB k.f4.toNat)) := by
    unfold chkB
    rw [decide_eq_true (by omega : l0.length ≤ 16), decide_eq_true (by omega : -1 ≤ t), decide_eq_true (by omega : t ≤ 255), decide_eq_true (by omega : m < 1024)]; simp
  cases hall : l0.all rightB with
  | false =>
    have hx : ∃ k ∈ l0, rightB k = false := by
      obtain ⟨k, hk1, hk2⟩ := List.all_eq_false.1 hall
      exact ⟨k, hk1, by simpa using hk2⟩
    exact (new_keys A0 c0 l0 m t st un r w hr0 hc0 (by omega) (by omega) (by omega) hb hx).mono (fun e w' h => .inl ⟨by rw [hchk, hall]; rfl, h⟩)
  | true =>
    have hgood := List.all_eq_true.1 hall
    have hsm : ∀ k ∈ l0, ∃ n : Nat, k.f4 = (n : Int) ∧ n < 1024 := fun k hk1 => by
      obtain ⟨n, e1, e2⟩ := hk k hk1
      exact ⟨n, e1, right_small k n e1 e2 (hgood k hk1)⟩
    have hlen : (effKeys m (modB m) l0).length = max 1 l0.length := by
      unfold effKeys; split
      · rename_i h; subst h; rfl
      · rename_i h; have := List.length_pos_iff.2 h; simp; omega
    refine (new_main A0 c0 l0 m t st un r w hr0 hc0 (by omega) (by omega) (by omega) hb hgood (effKeys m (modB m) l0) ⟨rfl⟩ (by omega) (by omega) (eff_small hm (by omega) hsm)).mono ?_
    rintro e w' (⟨ha, hb⟩ | ⟨ha, g, he, ho, hg, hB⟩)
    · exact .inl ⟨by rw [hchk, hall, ha]; rfl, hb⟩
    · exact .inr ⟨by rw [hchk, hall, ha]; rfl, g, he, ho, hg, hB⟩
theorem check_calls (A0 : Option Addr) (c0 : Nat) (l0 : List Ky) (m t : Int) (st un : Bool) (r : Rest) (w : World) (hr0 : Kd.C k33 w A0 l0.length l0) (hc0 : l0.length ≤ c0) (hl : l0.length ≤ 1000000) (mn : Nat) (hm : m = (mn : Int)) (hm2 : mn < 65536) (hk : ∀ k ∈ l0, ∃ n : Nat, k.f4 = (n : Int) ∧ n < 65536) :
    Calls Tryd.prog 31 #[.agg (optVal (.slice A0 l0.length c0) m t st un r)] w (ChkPost w (chkN l0 m t)) := by
  by_cases h : 16 < l0.length ∨ t < -1 ∨ 255 < t ∨ 1024 ≤ m
  · rw [chkN_bad (chk_false1 h)]
    exact check_bad A0 c0 l0 m t st un r w hl (by rw [IntKind.wrap_i64]; omega) h
  · exact check_main A0 c0 l0 m t st un r w hr0 hc0 mn hm hk (by omega) (by omega) (by omega) (by omega)
def OrddPost (w : World) (l0 : List Ky) (m t : Int) (st un : Bool) (e : Ending) (w' : World) : Prop :=
  (chkB l0 m t = false ∧ e = .returned (.tuple #[.pointer none, .bool true]) ∧ Below w.heap.size w w') ∨ (chkB l0 m t = true ∧ ∃ g, e = .returned (.tuple #[.pointer (some ⟨g, 0, none⟩), .bool true]) ∧ Made w l0 m t st un g w')
end Go.Proofs.YtnnoegjgaelafaaDoor.Pr
