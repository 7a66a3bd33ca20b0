/- What the program's together answers of modifiers: which go together. (math/bits.OnesCount16 by its table.) The columns of an order in memory, as a kind of the printed texts' words; slices.Clone of keys. What the program's Effective answers: each key with the modifiers in force, in a new list. The program's New refuses options whose numbers are out of bounds. -/
import Derived.Test.YtnnoegjgaelafaaDoorProg
import Derived.WalkKit
import Derived.KernelRfl
import Derived.Outline
import Derived.WalkSpells
import Derived.WalkLawsBesides
import Derived.Deep.QuietTactic
import Derived.BigQuiet
import Derived.LoopTactic
import Derived.Deep.LoopGhost
import Derived.Test.YtnnoegjgaelafaaDoorQWholeAa
import Derived.Test.YtnnoegjgaelafaaDoorQWholeAi
import Derived.Test.YtnnoegjgaelafaaDoorQWholeAv
namespace Go.Proofs.YtnnoegjgaelafaaDoor
open Go.RowKit Go.Proofs.YtnnoegjgaelafaaDoorW.PrintWords
set_option linter.unusedVariables false
def popTab : ByteArray := ⟨#[0, 1, 1, 2, 1, 2, 2, 3, 1, 2, 2, 3, 2, 3, 3, 4, 1, 2, 2, 3, 2, 3, 3, 4, 2, 3, 3, 4, 3, 4, 4, 5, 1, 2, 2, 3, 2, 3, 3, 4, 2, 3, 3, 4, 3, 4, 4, 5, 2, 3, 3, 4, 3, 4, 4, 5, 3, 4, 4, 5, 4, 5, 5, 6, 1, 2, 2, 3, 2, 3, 3, 4, 2, 3, 3, 4, 3, 4, 4, 5, 2, 3, 3, 4, 3, 4, 4, 5, 3, 4, 4, 5, 4, 5, 5, 6, 2, 3, 3, 4, 3, 4, 4, 5, 3, 4, 4, 5, 4, 5, 5, 6, 3, 4, 4, 5, 4, 5, 5, 6, 4, 5, 5, 6, 5, 6, 6, 7, 1, 2, 2, 3, 2, 3, 3, 4, 2, 3, 3, 4, 3, 4, 4, 5, 2, 3, 3, 4, 3, 4, 4, 5, 3, 4, 4, 5, 4, 5, 5, 6, 2, 3, 3, 4, 3, 4, 4, 5, 3, 4, 4, 5, 4, 5, 5, 6, 3, 4, 4, 5, 4, 5, 5, 6, 4, 5, 5, 6, 5, 6, 6, 7, 2, 3, 3, 4, 3, 4, 4, 5, 3, 4, 4, 5, 4, 5, 5, 6, 3, 4, 4, 5, 4, 5, 5, 6, 4, 5, 5, 6, 5, 6, 6, 7, 3, 4, 4, 5, 4, 5, 5, 6, 4, 5, 5, 6, 5, 6, 6, 7, 4, 5, 5, 6, 5, 6, 6, 7, 5, 6, 6, 7, 6, 7, 7, 8]⟩
theorem run_tab (i : Int) (h0 : 0 ≤ i) (h1 : i < 256) (W : World) : (Instr.index 9 (.string ⟨#[0, 1, 1, 2, 1, 2, 2, 3, 1, 2, 2, 3, 2, 3, 3, 4, 1, 2, 2, 3, 2, 3, 3, 4, 2, 3, 3, 4, 3, 4, 4, 5, 1, 2, 2, 3, 2, 3, 3, 4, 2, 3, 3, 4, 3, 4, 4, 5, 2, 3, 3, 4, 3, 4, 4, 5, 3, 4, 4, 5, 4, 5, 5, 6, 1, 2, 2, 3, 2, 3, 3, 4, 2, 3, 3, 4, 3, 4, 4, 5, 2, 3, 3, 4, 3, 4, 4, 5, 3, 4, 4, 5, 4, 5, 5, 6, 2, 3, 3, 4, 3, 4, 4, 5, 3, 4, 4, 5, 4, 5, 5, 6, 3, 4, 4, 5, 4, 5, 5, 6, 4, 5, 5, 6, 5, 6, 6, 7, 1, 2, 2, 3, 2, 3, 3, 4, 2, 3, 3, 4, 3, 4, 4, 5, 2, 3, 3, 4, 3, 4, 4, 5, 3, 4, 4, 5, 4, 5, 5, 6, 2, 3, 3, 4, 3, 4, 4, 5, 3, 4, 4, 5, 4, 5, 5, 6, 3, 4, 4, 5, 4, 5, 5, 6, 4, 5, 5, 6, 5, 6, 6, 7, 2, 3, 3, 4, 3, 4, 4, 5, 3, 4, 4, 5, 4, 5, 5, 6, 3, 4, 4, 5, 4, 5, 5, 6, 4, 5, 5, 6, 5, 6, 6, 7, 3, 4, 4, 5, 4, 5, 5, 6, 4, 5, 5, 6, 5, 6, 6, 7, 4, 5, 5, 6, 5, 6, 6, 7, 5, 6, 6, 7, 6, 7, 7, 8]⟩) (.int .u16 i)).run Tryd.prog W = .ok (.int .u8 (bt popTab i)) W := by
  have hs : popTab.size = 256 := by decide +kernel
  have hlt : i.toNat < popTab.size := by omega
  have h := bt_at popTab i hlt
  show (Instr.index 9 (.string popTab) (.int .u16 i)).run Tryd.prog W = _
  generalize popTab = s at *
  have hg : s[i.toNat]? = some (s[i.toNat]'hlt) := by simp [hlt]
  simp [Instr.index, asIntOf, run_underlying Tryd.underlying9, h0, hg, h]
set_option maxRecDepth 100000 in
set_option maxHeartbeats 4000000 in
theorem ones_calls (x : Int) (h0 : 0 ≤ x) (h1 : x < 512) (v1 v2 : Int) (e1 : bt popTab (x / 256) = v1) (e2 : bt popTab (bits .and .u16 x 255) = v2) (b1 : 0 ≤ v1 ∧ v1 ≤ 8) (b2 : 0 ≤ v2 ∧ v2 ≤ 8) (h2 : 0 ≤ bits .and .u16 x 255) (h3 : bits .and .u16 x 255 < 256) (w : World) :
    Calls Tryd.prog 73 #[.int .u16 x] w fun e w' => e = .returned (.int .i64 (v1 + v2)) ∧ Drawn0 w w' := by
  have i1 := run_tab (x / 256) (by omega) (by omega)
  have i2 := run_tab (bits .and .u16 x 255) h2 h3
  rw [e1] at i1
  rw [e2] at i2
  clear e1 e2
  go_enter Tryd.func73, Tryd.ntmps73
  go_wp2
  go_quiet (fail)
  go_wp2
  go_ret
  exact ⟨rfl, ⟨⟨nq, rfl⟩⟩⟩

/-- How many of the five kinds of numbers are there. -/
def kindsN (m : Nat) : Nat := m / 16 % 2 + m / 32 % 2 + m / 64 % 2 + m / 128 % 2 + m / 256 % 2
/-- The modifiers go together. -/
def togB (m : Nat) : Bool := kindsN m == 0 || kindsN m == 1 && (m / 2 % 2 == 0 && m / 8 % 2 == 0)
theorem mods_facts : ∀ m : Fin 1024, bt popTab (bits .and .u16 (m.val : Int) 496 / 256) + bt popTab (bits .and .u16 (bits .and .u16 (m.val : Int) 496) 255) = (kindsN m.val : Int) ∧
    (0 ≤ bt popTab (bits .and .u16 (m.val : Int) 496 / 256) ∧ bt popTab (bits .and .u16 (m.val : Int) 496 / 256) ≤ 8) ∧ (0 ≤ bt popTab (bits .and .u16 (bits .and .u16 (m.val : Int) 496) 255) ∧ bt popTab (bits .and .u16 (bits .and .u16 (m.val : Int) 496) 255) ≤ 8) ∧
    (0 ≤ bits .and .u16 (m.val : Int) 496 ∧ bits .and .u16 (m.val : Int) 496 < 512) ∧ (0 ≤ bits .and .u16 (bits .and .u16 (m.val : Int) 496) 255 ∧ bits .and .u16 (bits .and .u16 (m.val : Int) 496) 255 < 256) ∧
    (bits .and .u16 (m.val : Int) 10 == 0) = (m.val / 2 % 2 == 0 && m.val / 8 % 2 == 0) := by decide +kernel
set_option maxHeartbeats 4000000 in
theorem together_calls (m : Nat) (hm : m < 1024) (w : World) :
    Calls Tryd.prog 52 #[.int .u16 m] w fun e w' => e = .returned (.bool (togB m)) ∧ Drawn0 w w' := by
  obtain ⟨f1, f2, f3, f4, f5, f6⟩ := mods_facts ⟨m, hm⟩
  simp only at f1 f2 f3 f4 f5 f6
  have hc := fun W => ones_calls (bits .and .u16 (m : Int) 496) f4.1 f4.2 _ _ rfl rfl f2 f3 f5.1 f5.2 W
  rw [f1] at hc
  have HC := Aside0.mk hc
  clear hc f1 f2 f3 f5
  have hk : kindsN m = 0 ∨ kindsN m = 1 ∨ 2 ≤ kindsN m := by omega
  cases hd : (bits .and .u16 (m : Int) 10 == 0) <;> rw [hd] at f6
  all_goals
    rcases hk with h | h | h
    all_goals
      first
      | (have HR : Aside0 (togB m = false) := ⟨by unfold togB; rw [← f6, h]; rfl⟩)
      | (have HR : Aside0 (togB m = true) := ⟨by unfold togB; rw [← f6, h]; rfl⟩)
      | (have HR : Aside0 (togB m = false) := ⟨by unfold togB; rw [beq_eq_false_iff_ne.2 (by omega : kindsN m ≠ 0), beq_eq_false_iff_ne.2 (by omega : kindsN m ≠ 1)]; rfl⟩)
      clear f6
      have hb0 : (((kindsN m : Nat) : Int) == 0) = decide (kindsN m = 0) := by rw [Bool.eq_iff_iff]; simp
      have hb1 : (((kindsN m : Nat) : Int) == 1) = decide (kindsN m = 1) := by rw [Bool.eq_iff_iff]; simp; omega
      first
      | (rw [decide_eq_true h] at hb0)
      | (rw [decide_eq_false (by omega : ¬ kindsN m = 0)] at hb0)
      first
      | (rw [decide_eq_true h] at hb1)
      | (rw [decide_eq_false (by omega : ¬ kindsN m = 1)] at hb1)
      generalize hkk : ((kindsN m : Nat) : Int) = kk at *
      clear h hkk
      go_enter Tryd.func52, Tryd.ntmps52
      go_wp2_with (first | (go_at_call 73; refine (HC.out _).mono ?_; rintro e w' ⟨rfl, ⟨nq, rfl⟩⟩))
      first
      | (go_ret; exact ⟨by rw [HR.out]; rfl, ⟨⟨nq, rfl⟩⟩⟩)
      | (go_quiet (fail); go_wp2; go_ret; exact ⟨by rw [HR.out]; rfl, (Drawn0.step ⟨⟨nq, rfl⟩⟩ _)⟩)
/-- No bit beside the ten. -/
theorem and_small (a : Nat) (ha : a < 65536) : (bits .andNot .u16 (a : Int) 1023 == 0) = decide (a < 1024) := by
  have h1 : (BitVec.ofInt 16 (a : Int)).toNat = a := by
    rw [BitVec.ofInt_natCast, BitVec.toNat_ofNat]; exact Nat.mod_eq_of_lt (by omega)
  have e : bits .andNot .u16 (a : Int) 1023 = IntKind.u16.wrap ((BitVec.ofInt 16 (a : Int) &&& ~~~ BitVec.ofInt 16 1023).toNat : Int) := rfl
  generalize hx : BitVec.ofInt 16 (a : Int) = x at *
  have hlt := (x &&& ~~~ BitVec.ofInt 16 1023).isLt
  have e2 : bits .andNot .u16 (a : Int) 1023 = ((x &&& ~~~ BitVec.ofInt 16 1023).toNat : Int) := by
    rw [e]
    generalize (x &&& ~~~ BitVec.ofInt 16 1023).toNat = n at *
    simp only [IntKind.wrap, IntKind.bits, IntKind.signed]
    have h3 : n < 65536 := hlt
    simp
    omega
  rw [e2]
  by_cases h : a < 1024
  · rw [decide_eq_true h]
    have : x &&& ~~~ BitVec.ofInt 16 1023 = 0#16 := by
      apply BitVec.eq_of_getLsbD_eq
      intro i hi
      rw [BitVec.getLsbD_and]
      by_cases h10 : i < 10
      · have hb : (~~~ BitVec.ofInt 16 1023).getLsbD i = false := by
          have : ∀ j : Fin 10, (~~~ BitVec.ofInt 16 1023).getLsbD j.val = false := by decide +kernel
          exact this ⟨i, h10⟩
        rw [hb]; simp
      · have : x.getLsbD i = false := by
          rw [BitVec.getLsbD, h1]
          exact Nat.testBit_lt_two_pow (Nat.lt_of_lt_of_le h (show 2 ^ 10 ≤ 2 ^ i from Nat.pow_le_pow_right (by omega) (by omega)))
        rw [this]; simp
    rw [this]; rfl
  · rw [decide_eq_false h, beq_eq_false_iff_ne]
    intro h0
    obtain ⟨i, hi, hb⟩ := Nat.exists_ge_and_testBit_of_ge_two_pow (n := 10) (x := a) (by omega)
    have hi16 : i < 16 := by
      apply Nat.lt_of_not_le
      intro hge
      rw [Nat.testBit_lt_two_pow (Nat.lt_of_lt_of_le ha (show 2 ^ 16 ≤ 2 ^ i from Nat.pow_le_pow_right (by omega) hge))] at hb
      cases hb
    have hz : x &&& ~~~ BitVec.ofInt 16 1023 = 0#16 := BitVec.eq_of_toNat_eq (by rw [BitVec.toNat_ofNat]; omega)
    have hg : (x &&& ~~~ BitVec.ofInt 16 1023).getLsbD i = false := by rw [hz]; simp
    rw [BitVec.getLsbD_and, BitVec.getLsbD, h1, hb] at hg
    have : ∀ j : Fin 16, 10 ≤ j.val → (~~~ BitVec.ofInt 16 1023).getLsbD j.val = true := by decide +kernel
    rw [this ⟨i, hi16⟩ hi] at hg
    cases hg
end Go.Proofs.YtnnoegjgaelafaaDoor
namespace Go.Proofs.YtnnoegjgaelafaaDoor.Pr
open Go.RowKit Go.Proofs.YtnnoegjgaelafaaDoorW.PrintWords Go.Proofs.YtnnoegjgaelafaaDoorW.PrintLast
set_option linter.unusedVariables false
set_option linter.unusedSimpArgs false

abbrev Ky := S33
/-- A key, and how it is compared: kb: the variable that the two closures hold, which holds kind. -/
structure Col where
  key : Ky
  filt : Bool
  kind : Int
  kb : Nat
def keyCells (k : Ky) : List Value := [.int .i64 k.f0, .int .i64 k.f1, .int .i64 k.f2, .int .i64 k.f3, .int .u16 k.f4, .bool k.f5]
def Col.cells (c : Col) : List Value := [.int .i64 c.key.f0, .int .i64 c.key.f1, .int .i64 c.key.f2, .int .i64 c.key.f3, .int .u16 c.key.f4, .bool c.key.f5, .bool c.filt,
  .func (.func 53) #[] #[.pointer (some ⟨c.kb, 0, none⟩)], .func (.func 55) #[] #[.pointer (some ⟨c.kb, 0, none⟩)]]
def Col.holds (w : World) (c : Col) : Prop := w.heap[c.kb]? = some (.cells #[.int .u16 c.kind] 24 (0, 0))
def kCol : Kd Col where
  sz := 9
  E := [24]
  K w c cs := cs = c.cells ∧ c.holds w
  M w base ok c cs := cs = c.cells ∧ c.holds w ∧ ok c.kb ∧ base ≤ c.kb
  K_len := by rintro w x cs ⟨rfl, _⟩; rfl
  K_one := by
    rintro w x cs ⟨rfl, _⟩ u hu
    simp only [Col.cells, List.mem_cons, List.not_mem_nil, or_false] at hu
    rcases hu with rfl | rfl | rfl | rfl | rfl | rfl | rfl | rfl | rfl <;> rfl
  K_below := by
    rintro w w1 x cs hb ⟨rfl, h⟩
    refine ⟨rfl, ?_⟩
    unfold Col.holds at h ⊢
    rw [hb.block _ (Array.getElem?_eq_some_iff.1 h).1]; exact h
  K_of_M := fun h => ⟨h.1, h.2.1⟩
  M_mono := fun h hm => ⟨hm.1, hm.2.1, h _ hm.2.2.1, hm.2.2.2⟩
  M_bound := by
    rintro w base ok x cs ⟨rfl, h, h1, h2⟩
    exact ⟨rfl, h, ⟨h1, h2, (Array.getElem?_eq_some_iff.1 h).1, 24, by simp, _, h⟩, h2⟩
  M_move := by
    rintro w w1 base ok x cs hm ⟨rfl, h, h1, h2⟩
    refine ⟨rfl, ?_, h1, h2⟩
    unfold Col.holds at h ⊢
    rw [hm _ h1]; exact h
  M_lower := fun hl hm => ⟨hm.1, hm.2.1, hm.2.2.1, Nat.le_trans hl hm.2.2.2⟩

theorem infoKey : (Tryd.prog.info? 33).map (fun i => (i.zero, i.size, i.bytes)) = some (some (.agg #[.int .i64 0, .int .i64 0, .int .i64 0, .int .i64 0, .int .u16 0, .bool false]), 6, 40) := by kernel_rfl
theorem infoCol : (Tryd.prog.info? 71).map (fun i => (i.zero, i.size, i.bytes)) = some (some (.agg #[.int .i64 0, .int .i64 0, .int .i64 0, .int .i64 0, .int .u16 0, .bool false, .bool false, .nilFunc, .nilFunc]), 9, 64) := by kernel_rfl

theorem key_made {w W : World} {base : Nat} {ok : Nat → Prop} {x : Ky} {cs : List Value} (h : k33.K w x cs) : k33.M W base ok x cs := by
  rw [k33_open h]; exact k33_mkM _ _ _ _
/-- An empty slice that is not nil, in a new block. -/
theorem empty_R {α : Type} (d : Kd α) (e : TypeId) (w : World) : d.R e (w.alloc (.cells #[] e)) w.heap.size (fun _ => True) (.slice (some ⟨w.heap.size, 0, none⟩) 0 0) [] :=
  ⟨fun _ _ => trivial, [], ⟨by simp, .inr ⟨w.heap.size, 0, #[], rfl, Nat.le_refl _, heap_alloc_new _ _, Nat.le_refl _, by decide, by simp, by simp⟩⟩, Reps.none _ _⟩
theorem reads_alloc {α : Type} {R : α → List Value → Prop} {sz : Nat} {w : World} {A : Option Addr} {n : Nat} {xs : List α} (h : ReadsRow R sz w A n xs) (o : Obj) : ReadsRow R sz (w.alloc o) A n xs :=
  ReadsRow.imp_ h ((Below.refl _ _).alloc (Nat.le_refl _) _) (fun _ _ hp => hp)

set_option maxHeartbeats 4000000 in
set_option maxRecDepth 100000 in
theorem clone_keys (A0 : Option Addr) (c0 : Nat) (l0 : List Ky) (w : World) (hr0 : Kd.C k33 w A0 l0.length l0) (hc0 : l0.length ≤ c0) (hl : l0.length ≤ 1000000) :
    Calls Tryd.prog 51 #[.slice A0 l0.length c0] w fun e w' => ∃ v0 : Value, e = .returned v0 ∧ Kd.R k33 33 w' w.heap.size (fun _ => True) v0 l0 ∧ Below w.heap.size w w' := by
  have hq := fun (W : World) (n c : Nat) (A : Option Addr) => Lib.run_eql_slice_nil (P := Tryd.prog) W 22 33 A n c 0 0 Tryd.underlying22
  cases A0 with
  | none =>
    have h0 : l0 = [] := by
      rcases Nat.eq_zero_or_pos l0.length with h0 | h0
      · exact List.eq_nil_of_length_eq_zero h0
      · obtain ⟨ad, h, _⟩ := hr0.2.2 h0
        cases h
    subst h0
    go_enter Tryd.func51, Tryd.ntmps51
    go_wp2
    go_ret
    exact ⟨_, rfl, Kd.R_nil _ _ _ _ _, Below.refl _ _⟩
  | some a =>
    go_enter Tryd.func51, Tryd.ntmps51
    go_wp2_with (first | (at_builtin; refine Kd.R_append_rows (Rr := k33.K w) k33 (w0 := w) w.heap.size rfl (.tmp 5) (.tmp 6) 22 33 (.agg #[.int .i64 0, .int .i64 0, .int .i64 0, .int .i64 0, .int .u16 0, .bool false]) 40 rfl Tryd.underlying22 infoKey rfl (by decide) (by omega) (.slice (some ⟨w.heap.size, 0, none⟩) 0 0) [] l0 _ _ _ (fun _ => True) (fun _ => False) rfl rfl ?aO ?aR (fun x cs h => key_made h) (fun _ h => h.elim) ?aF ?aB ?aS ?aL ?_))
    case aO => exact empty_R _ _ _
    case aR => exact reads_alloc hr0 _
    case aF => exact fun _ _ => trivial
    case aB => exact (Below.refl _ _).alloc (Nat.le_refl _) _
    case aS => simp
    case aL => simp; omega
    intro v1 w1 hR hB hg hat
    go_wp2
    go_ret
    exact ⟨_, rfl, by simpa using hR, hB⟩
end Go.Proofs.YtnnoegjgaelafaaDoor.Pr
namespace Go.Proofs.YtnnoegjgaelafaaDoor.Pr
open Go.RowKit Go.Proofs.YtnnoegjgaelafaaDoorW.PrintWords Go.Proofs.YtnnoegjgaelafaaDoorW.PrintLast
set_option linter.unusedVariables false
set_option linter.unusedSimpArgs false

def effKey (m : Int) (b : Bool) (k : Ky) : Ky := if k.f4 == 0 && !k.f5 then { k with f4 := m, f5 := b } else k
def effKeys (m : Int) (b : Bool) (l : List Ky) : List Ky := if l = [] then [⟨1, 1, 0, 0, m, b⟩] else l.map (effKey m b)
def modB (m : Int) : Bool := bits .and .u16 m 1 != 0
def optCells (v : Value) (m t : Int) : Array Value := #[v, .int .u16 m, .int .i64 t, .bool false, .bool false, .bool false, .bool false, .int .u8 0, .string ⟨#[]⟩, .bool false, .int .i64 0, .int .i64 0, .int .i64 0, .int .i64 0, .string ⟨#[]⟩, .bool false, .string ⟨#[]⟩, .slice none 0 0]

theorem optCells_def (v : Value) (m t : Int) : optCells v m t = #[v, .int .u16 m, .int .i64 t, .bool false, .bool false, .bool false, .bool false, .int .u8 0, .string ⟨#[]⟩, .bool false, .int .i64 0, .int .i64 0, .int .i64 0, .int .i64 0, .string ⟨#[]⟩, .bool false, .string ⟨#[]⟩, .slice none 0 0] := rfl
theorem key_M (W : World) (base : Nat) (ok : Nat → Prop) (k : Ky) : k33.M W base ok k (keyCells k) := k33_mkM _ _ _ _

/-- One key in a new block. -/
theorem one_R (W : World) (base : Nat) (hb : base ≤ W.heap.size) (k : Ky) : Kd.R k33 33 (W.alloc (.cells (keyCells k).toArray 33)) base (fun _ => True) (.slice (some ⟨W.heap.size, 0, none⟩) 1 1) [k] :=
  ⟨fun _ _ => trivial, keyCells k, ⟨rfl, .inr ⟨W.heap.size, 1, (keyCells k).toArray, rfl, hb, heap_alloc_new _ _, Nat.le_refl _, by decide, rfl, rfl⟩⟩, ⟨rfl, fun j p hj => by
    match j, hj with
    | 0, hj => simp at hj; subst hj; exact key_M _ _ _ _⟩⟩
set_option maxHeartbeats 8000000 in
set_option maxRecDepth 100000 in
theorem effective_none (A0 : Option Addr) (c0 : Nat) (m t : Int) (w : World) :
    Calls Tryd.prog 50 #[.agg (optCells (.slice A0 0 c0) m t)] w fun e w' => ∃ v0 : Value, e = .returned v0 ∧ Kd.R k33 33 w' w.heap.size (fun _ => True) v0 (effKeys m (modB m) []) ∧ Below w.heap.size w w' := by
  have hu := Tryd.underlying28
  have hu2 := Tryd.underlying33
  cases hmb : (bits .and .u16 m 1 != 0)
  all_goals
    have HM := Aside0.mk hmb
    rw [optCells_def]
    go_enter Tryd.func50, Tryd.ntmps50
    go_wp2
    go_ret
    refine ⟨_, rfl, ?_, ((Below.refl _ _).alloc (Nat.le_refl _) _).alloc (by simp) _⟩
    have h1 := one_R (w.alloc (.cells (optCells (.slice A0 0 c0) m t) 28)) w.heap.size (by simp) (⟨1, 1, 0, 0, m, modB m⟩ : Ky)
    have e : modB m = _ := HM.out
    rw [e] at h1
    have e2 : effKeys m (modB m) [] = [(⟨1, 1, 0, 0, m, modB m⟩ : Ky)] := rfl
    rw [e2, e]
    rw [optCells_def] at h1
    simpa [keyCells] using h1

/-- The keys, the first i of them with what is in force. -/
def effUpto (m : Int) (b : Bool) (l : List Ky) (i : Nat) : List Ky := (l.take i).map (effKey m b) ++ l.drop i
theorem effUpto_length (m : Int) (b : Bool) (l : List Ky) (i : Nat) : (effUpto m b l i).length = l.length := by simp [effUpto]; omega
theorem effUpto_at (m : Int) (b : Bool) (l : List Ky) (i : Nat) (h : i < l.length) : rd_T33 (effUpto m b l i) (i : Int) = l[i] := by
  have h2 : min i l.length = i := by omega
  simp [rd_T33, effUpto, List.getD_eq_getElem?_getD, List.getElem?_append, h, h2]
theorem effUpto_keep (m : Int) (b : Bool) (l : List Ky) (i : Nat) (h : i < l.length) (hk : effKey m b l[i] = l[i]) : effUpto m b l (i + 1) = effUpto m b l i := by
  unfold effUpto
  rw [List.take_succ_eq_append_getElem h, List.map_append, List.append_assoc]
  simp [hk]
theorem effUpto_set (m : Int) (b : Bool) (l : List Ky) (i : Nat) (h : i < l.length) : (effUpto m b l i).set i (effKey m b l[i]) = effUpto m b l (i + 1) := by
  unfold effUpto
  rw [List.take_succ_eq_append_getElem h, List.map_append, List.append_assoc]
  rw [List.set_append_right _ _ (by simp; omega)]
  have e : i - (List.map (effKey m b) (List.take i l)).length = 0 := by simp; omega
  rw [e, List.drop_eq_getElem_cons h]
  simp only [List.set_cons_zero, List.map_cons, List.map_nil, List.singleton_append]
/-- Two fields of element i are written. -/
theorem two_set {wr : World} {base g n cap : Nat} {xs : List Ky} (h : Kd.R k33 33 wr base (fun _ => True) (.slice (some ⟨g, 0, none⟩) n cap) xs) (i : Nat) (hi : i < n) (m : Int) (b : Bool) :
    Kd.R k33 33 ((wr.setCell ⟨g, i * 6 + 4, none⟩ (.int .u16 m)).setCell ⟨g, i * 6 + 5, none⟩ (.bool b)) base (fun _ => True) (.slice (some ⟨g, 0, none⟩) n cap) (xs.set i { rd_T33 xs (i : Int) with f4 := m, f5 := b }) ∧ base ≤ g := by
  obtain ⟨hn, _, hC⟩ := Kd.R_reads' h
  obtain ⟨ad, e, x0, x1, x2, x3, x4, x5⟩ := at_T33 hC (i : Int) (by omega) (by omega)
  obtain rfl := Option.some.inj e
  simp only [add_plain, Int.toNat_natCast] at x0 x1 x2 x3 x4 x5
  have hs := (Kd.R_seg h (i : Int) (by omega) (by omega) (c := keyCells (rd_T33 xs (i : Int))) (seg := [.int .u16 m, .bool b]) (j := 4) (okp := fun _ => False) (x' := { rd_T33 xs (i : Int) with f4 := m, f5 := b }) rfl
    (fun j u hj => by
      match j, hj with
      | 0, hj => simp [keyCells] at hj; subst hj; exact x0
      | 1, hj => simp [keyCells] at hj; subst hj; exact x1
      | 2, hj => simp [keyCells] at hj; subst hj; exact x2
      | 3, hj => simp [keyCells] at hj; subst hj; exact x3
      | 4, hj => simp [keyCells] at hj; subst hj; exact x4
      | 5, hj => simp [keyCells] at hj; subst hj; exact x5)
    (Nat.le_refl 6) (key_M _ _ _ _) (fun _ h => h.elim)).1
  rw [Int.toNat_natCast] at hs
  exact ⟨hs, Kd.R_base h g (by simp [Value.ownBlock])⟩
set_option maxHeartbeats 8000000 in
set_option maxRecDepth 100000 in
theorem effective_some (A0 : Option Addr) (c0 : Nat) (l0 : List Ky) (m t : Int) (w : World) (hr0 : Kd.C k33 w A0 l0.length l0) (hc0 : l0.length ≤ c0) (hl : l0.length ≤ 1000000) (hp : 0 < l0.length) :
    Calls Tryd.prog 50 #[.agg (optCells (.slice A0 l0.length c0) m t)] w fun e w' => ∃ v0 : Value, e = .returned v0 ∧ Kd.R k33 33 w' w.heap.size (fun _ => True) v0 (effKeys m (modB m) l0) ∧ Below w.heap.size w w' := by
  have hu := Tryd.underlying28
  have hu2 := Tryd.underlying33
  have hd : ((l0.length : Int) == 0) = false := by rw [beq_eq_false_iff_ne]; omega
  have HC := Aside0.mk (fun o => clone_keys A0 c0 l0 (w.alloc o) (reads_alloc hr0 o) hc0 hl)
  have HL := Aside0.mk (show effKeys m (modB m) l0 = effUpto m (modB m) l0 l0.length by unfold effKeys effUpto; rw [if_neg (by intro h; rw [h] at hp; cases hp)]; simp)
  have H0 := Aside0.mk (show l0 = effUpto m (modB m) l0 0 by simp [effUpto])
  cases hmb : (bits .and .u16 m 1 != 0)
  all_goals
    have HM := Aside0.mk (show modB m = _ from hmb)
    rw [optCells_def]
    go_enter Tryd.func50, Tryd.ntmps50
    go_wp2_with fail
    refine (HC.out _).mono ?_
    rintro e w1 ⟨v0, rfl, hR, hB⟩
    obtain ⟨g, cap, rfl, hg0, hg1, _⟩ := Kd.R_form hR hp
    have HR := Aside0.mk hR
    have HB := Aside0.mk hB
    have HG := Aside0.mk hg0
    clear hR hB hg0
    go_wp2
    have hb1 : (w.alloc (.cells (optCells (.slice A0 l0.length c0) m t) 28)).cell? ⟨w.heap.size, 1, none⟩ = some (.int .u16 m) := by
      unfold World.cell?
      rw [heap_alloc_new]
      rfl
    go_loopw [25] (fun v wr => ∃ i : Nat, v = .int .i64 i ∧ i ≤ l0.length ∧ Aside0 (Kd.R k33 33 wr (w.heap.size + 1) (fun _ => True) (.slice (some ⟨g, 0, none⟩) l0.length cap) (effUpto m (modB m) l0 i)) ∧ Aside0 (Below (w.heap.size + 1) (w.alloc (.cells (optCells (.slice A0 l0.length c0) m t) 28)) wr)) (fun v _ => l0.length - (intOf v).toNat)
    case atStart => exact ⟨0, rfl, Nat.zero_le _, ⟨by rw [← H0.out]; simpa using HR.out⟩, ⟨by simpa [optCells_def] using HB.out⟩⟩
    case round =>
      obtain ⟨i, rfl, hi, HRi, HBi⟩ := hrel
      have hbox : wr.cell? ⟨w.heap.size, 1, none⟩ = some (.int .u16 m) := (HBi.out.cell (p := ⟨w.heap.size, 1, none⟩) (by simp)).trans hb1
      by_cases hlt : i < l0.length
      · have hC := (Kd.R_reads' HRi.out).2.2
        rw [effUpto_length] at hC
        obtain ⟨_, _, hge, _, _, cur, hblk⟩ := Kd.R_form HRi.out (by rw [effUpto_length]; exact hp)
        obtain rfl : g = _ := by injection hge with h1; injection h1 with h1; injection h1
        have hf4 := blk_frozen hblk (i * 6 + 4)
        have hf5 := blk_frozen hblk (i * 6 + 5)
        clear hge hblk
        obtain ⟨ad, e, _, _, _, _, x4, x5⟩ := at_T33 hC (i : Int) (by omega) (by omega)
        rw [effUpto_at m (modB m) l0 i hlt] at x4 x5
        obtain rfl := Option.some.inj e
        simp only [add_plain, Int.toNat_natCast] at x4 x5
        have hlti : decide (i < l0.length) = true := decide_eq_true hlt
        have HLT := Aside0.mk hlt
        clear hC
        by_cases hk : (l0[i].f4 == 0) = true
        · cases hk5 : l0[i].f5
          · have hN := effUpto_set m (modB m) l0 i hlt
            have hE : effKey m (modB m) l0[i] = { l0[i] with f4 := m, f5 := modB m } := by unfold effKey; rw [hk, hk5]; rfl
            have HN := Aside0.mk hN
            have HE := Aside0.mk hE
            rw [hk5] at x5
            clear hN hE hk5
            go_wp2
            obtain ⟨h2, hgb⟩ := two_set HRi.out i HLT.out m (modB m)
            rw [effUpto_at m (modB m) l0 i HLT.out, ← HE.out, HN.out] at h2
            have hB2 := (HBi.out.setCell (p := ⟨g, i * 6 + 4, none⟩) hgb (.int .u16 m)).setCell (p := ⟨g, i * 6 + 5, none⟩) hgb (.bool (modB m))
            have e := HM.out
            rw [e] at h2 hB2
            have H2 := Aside0.mk (show Kd.R k33 33 _ _ _ _ (effUpto m (modB m) l0 (i + 1)) by rw [e]; exact h2)
            have HB2 := Aside0.mk hB2
            clear h2 hB2 e
            go_roundw
            case rel => exact ⟨i + 1, by go_num, HLT.out, H2, HB2⟩
            case measure => simp [intOf]; omega
          · have hN := effUpto_keep m (modB m) l0 i hlt (by unfold effKey; rw [hk5]; simp)
            have HN := Aside0.mk hN
            rw [hk5] at x5
            clear hN hk5
            go_wp2
            go_roundw
            case rel => exact ⟨i + 1, by go_num, HLT.out, ⟨by rw [HN.out]; exact HRi.out⟩, HBi⟩
            case measure => simp [intOf]; omega
        · have hk' : (l0[i].f4 == 0) = false := by simpa using hk
          clear hk
          have hN := effUpto_keep m (modB m) l0 i hlt (by unfold effKey; rw [hk']; simp)
          have HN := Aside0.mk hN
          clear hN
          go_wp2
          go_roundw
          case rel => exact ⟨i + 1, by go_num, HLT.out, ⟨by rw [HN.out]; exact HRi.out⟩, HBi⟩
          case measure => simp [intOf]; omega
      · have hge : i = l0.length := by omega
        subst hge
        go_wp2
        go_ret
        refine ⟨_, rfl, ?_, ?_⟩
        · rw [HL.out]; exact Kd.R_lower HRi.out (Nat.le_succ _)
        · exact (((Below.refl _ _).alloc (Nat.le_refl _) _).trans (HBi.out.mono (by omega)))
theorem effective_any (A0 : Option Addr) (c0 : Nat) (l0 : List Ky) (m t : Int) (w : World) (hr0 : Kd.C k33 w A0 l0.length l0) (hc0 : l0.length ≤ c0) (hl : l0.length ≤ 1000000) :
    Calls Tryd.prog 50 #[.agg #[.slice A0 l0.length c0, .int .u16 m, .int .i64 t, .bool false, .bool false, .bool false, .bool false, .int .u8 0, .string ⟨#[]⟩, .bool false, .int .i64 0, .int .i64 0, .int .i64 0, .int .i64 0, .string ⟨#[]⟩, .bool false, .string ⟨#[]⟩, .slice none 0 0]] w fun e w' => ∃ v0 : Value, e = .returned v0 ∧ Kd.R k33 33 w' w.heap.size (fun _ => True) v0 (effKeys m (modB m) l0) ∧ Below w.heap.size w w' := by
  rw [← optCells_def]
  rcases Nat.eq_zero_or_pos l0.length with h0 | hp
  · have := List.eq_nil_of_length_eq_zero h0
    subst this
    exact effective_none A0 c0 m t w
  · exact effective_some A0 c0 l0 m t w hr0 hc0 hl hp
end Go.Proofs.YtnnoegjgaelafaaDoor.Pr
namespace Go.Proofs.YtnnoegjgaelafaaDoor.Pr
open Go.RowKit Go.Proofs.YtnnoegjgaelafaaDoorW.PrintWords Go.Proofs.YtnnoegjgaelafaaDoorW.PrintLast
set_option linter.unusedVariables false
set_option linter.unusedSimpArgs false

/-- Options as a value: the first five fields, and the rest. -/
structure Rest where
  r5 : Bool
  r6 : Bool
  r7 : Int
  r8 : ByteArray
  r9 : Bool
  r10 : Int
  r11 : Int
  r12 : Int
  r13 : Int
  r14 : ByteArray
  r15 : Bool
  r16 : ByteArray
  r17 : Value
def optVal (v : Value) (m t : Int) (st un : Bool) (r : Rest) : Array Value := #[v, .int .u16 m, .int .i64 t, .bool st, .bool un, .bool r.r5, .bool r.r6, .int .u8 r.r7, .string r.r8, .bool r.r9, .int .i64 r.r10, .int .i64 r.r11, .int .i64 r.r12, .int .i64 r.r13, .string r.r14, .bool r.r15, .string r.r16, r.r17]
theorem bstep {a w w1 : World} (h : Below a.heap.size a w) (hb : Below w.heap.size w w1) : Below a.heap.size a w1 := h.trans (hb.mono h.size)
def NewBad (w : World) (e : Ending) (w' : World) : Prop := e = .returned (.tuple #[.pointer none, .int .i64 50]) ∧ Below w.heap.size w w'
set_option maxRecDepth 100000 in
theorem new_bad1 (A0 : Option Addr) (n c0 : Nat) (m t : Int) (st un : Bool) (r : Rest) (w : World) (h : 16 < n) (hn : n ≤ 1000000000) :
    Calls Tryd.prog 29 #[.agg (optVal (.slice A0 n c0) m t st un r)] w (NewBad w) := by
  have hu := Tryd.underlying28
  unfold optVal
  go_enter Tryd.func29, Tryd.ntmps29
  go_wp2
  go_ret2
  exact ⟨rfl, (Below.refl _ _).alloc (Nat.le_refl _) _⟩
set_option maxRecDepth 100000 in
theorem new_bad2 (A0 : Option Addr) (n c0 : Nat) (m t : Int) (st un : Bool) (r : Rest) (w : World) (h : n ≤ 16) (h2 : t < -1) :
    Calls Tryd.prog 29 #[.agg (optVal (.slice A0 n c0) m t st un r)] w (NewBad w) := by
  have hu := Tryd.underlying28
  unfold optVal
  go_enter Tryd.func29, Tryd.ntmps29
  go_wp2
  go_ret2
  exact ⟨rfl, (Below.refl _ _).alloc (Nat.le_refl _) _⟩
set_option maxRecDepth 100000 in
theorem new_bad3 (A0 : Option Addr) (n c0 : Nat) (m t : Int) (st un : Bool) (r : Rest) (w : World) (h : n ≤ 16) (h2 : 255 < t) :
    Calls Tryd.prog 29 #[.agg (optVal (.slice A0 n c0) m t st un r)] w (NewBad w) := by
  have hu := Tryd.underlying28
  have h3 : ¬ t < -1 := by omega
  unfold optVal
  go_enter Tryd.func29, Tryd.ntmps29
  go_wp2
  go_ret2
  exact ⟨rfl, (Below.refl _ _).alloc (Nat.le_refl _) _⟩
set_option maxRecDepth 100000 in
theorem new_bad4 (A0 : Option Addr) (n c0 : Nat) (m t : Int) (st un : Bool) (r : Rest) (w : World) (h : n ≤ 16) (h2 : t ≤ 255) (h3 : -1 ≤ t) (h4 : (bits .andNot .u16 m 1023 != 0) = true) :
    Calls Tryd.prog 29 #[.agg (optVal (.slice A0 n c0) m t st un r)] w (NewBad w) := by
  have hu := Tryd.underlying28
  unfold optVal
  go_enter Tryd.func29, Tryd.ntmps29
  go_wp2
  go_ret2
  exact ⟨rfl, (Below.refl _ _).alloc (Nat.le_refl _) _⟩

/-- What right answers of a key. -/
def rightB (k : Ky) : Bool := (collate_right.f k.f0 k.f1 k.f2 k.f3 k.f4 k.f5).getD false
theorem right_some (k : Ky) : collate_right.f k.f0 k.f1 k.f2 k.f3 k.f4 k.f5 = some (rightB k) := by
  have : ∃ b, collate_right.f k.f0 k.f1 k.f2 k.f3 k.f4 k.f5 = some b := by
    unfold collate_right.f
    repeat' (split <;> try exact ⟨_, rfl⟩)
  obtain ⟨b, hb⟩ := this
  unfold rightB; rw [hb]; rfl
set_option maxHeartbeats 8000000 in
set_option maxRecDepth 100000 in
theorem new_keys (A0 : Option Addr) (c0 : Nat) (l0 : List Ky) (m t : Int) (st un : Bool) (r : Rest) (w : World) (hr0 : Kd.C k33 w A0 l0.length l0) (hc0 : l0.length ≤ c0) (h : l0.length ≤ 16) (h2 : t ≤ 255) (h3 : -1 ≤ t) (h4 : (bits .andNot .u16 m 1023 != 0) = false)
    (hbad : ∃ k ∈ l0, rightB k = false) :
    Calls Tryd.prog 29 #[.agg (optVal (.slice A0 l0.length c0) m t st un r)] w (NewBad w) := by
  have hu := Tryd.underlying28
  have hu2 := Tryd.underlying33
  have HR0 := Aside0.mk hr0
  clear hr0
  unfold optVal
  go_enter Tryd.func29, Tryd.ntmps29
  go_wp2
  go_loopw [33] (fun v wr => ∃ i : Nat, v = .int .i64 i ∧ i ≤ l0.length ∧ Aside0 (∀ j (hj : j < l0.length), j < i → rightB l0[j] = true) ∧ Aside0 (Below w.heap.size w wr)) (fun v _ => l0.length - (intOf v).toNat)
  case atStart => exact ⟨0, rfl, Nat.zero_le _, ⟨fun j _ hj => absurd hj (Nat.not_lt_zero _)⟩, ⟨(Below.refl _ _).alloc (Nat.le_refl _) _⟩⟩
  case round =>
    obtain ⟨i, rfl, hi, HJ, HB⟩ := hrel
    by_cases hlt : i < l0.length
    · have HLT := Aside0.mk hlt
      obtain ⟨ad, e, x0, x1, x2, x3, x4, x5⟩ := at_T33 (Kd.C_below HR0.out HB.out) (i : Int) (by omega) (by omega)
      subst e
      have hrd : rd_T33 l0 (i : Int) = l0[i] := by simp [rd_T33, hlt]
      rw [hrd] at x0 x1 x2 x3 x4 x5
      simp only [Int.toNat_natCast] at x0 x1 x2 x3 x4 x5
      have HC := Aside0.mk (fun W => collate_right.calls l0[i].f0 l0[i].f1 l0[i].f2 l0[i].f3 l0[i].f4 l0[i].f5 (rightB l0[i]) W (right_some l0[i]))
      clear hrd
      generalize hkx : l0[i] = kx at *
      have HK := Aside0.mk hkx
      clear hkx
      cases hb : rightB kx
      · have HRB := Aside0.mk hb
        rw [hb] at HC
        clear hb
        go_wp2_with fail
        refine (HC.out _).mono ?_
        rintro e w1 ⟨rfl, hb1⟩
        have HB1 := Aside0.mk (bstep (HB.out.alloc HB.out.size _) hb1)
        clear hb1
        go_wp2
        go_ret2
        exact ⟨rfl, HB1.out⟩
      · have HRB := Aside0.mk hb
        rw [hb] at HC
        clear hb
        go_wp2_with fail
        refine (HC.out _).mono ?_
        rintro e w1 ⟨rfl, hb1⟩
        have HB1 := Aside0.mk (bstep (HB.out.alloc HB.out.size _) hb1)
        clear hb1
        go_wp2
        go_roundw
        case rel => exact ⟨i + 1, by go_num, HLT.out, ⟨fun j hj hji => by
          by_cases e : j = i
          · subst e; rw [HK.out]; exact HRB.out
          · exact HJ.out j hj (by omega)⟩, HB1⟩
        case measure => simp [intOf]; omega
    · exfalso
      obtain ⟨k, hk, hf⟩ := hbad
      obtain ⟨j, hj, rfl⟩ := List.getElem_of_mem hk
      have := HJ.out j hj (by omega)
      rw [this] at hf; cases hf
end Go.Proofs.YtnnoegjgaelafaaDoor.Pr
