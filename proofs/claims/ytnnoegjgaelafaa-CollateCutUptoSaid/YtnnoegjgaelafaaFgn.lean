/- What the functions classes, skip, IndexByte of the program and of Go's library answer: contracts proved by hand, in the form that the printed texts of this seat use. -/
import Derived.Test.YtnnoegjgaelafaaProg
import Derived.Test.YtnnoegjgaelafaaModel
import Derived.WalkKit
import Derived.KernelRfl
import Derived.Below
import Derived.Outline
import Derived.Great.BuildSlice
import Derived.Deep.RegionHeld3
import Derived.LoopTactic
import Derived.Deep.DeepCutAuto
import Derived.Deep.LoopGhost
import Derived.Deep.QuietTactic
import Derived.BigQuiet
import Derived.Test.YtnnoegjgaelafaaShelf
namespace Go.Proofs.Ytnnoegjgaelafaa
open Go.RowKit Go.Great Go.Proofs.YtnnoegjgaelafaaW.PrintWords

theorem below_setRow {B : Nat} {a w : World} (h : Below B a w) (g : Nat) (hg : B ≤ g) (cs : Array Value) : Below B a (w.setRow g cs) :=
  h.trans ⟨rfl, rfl, rfl, by simp, fun k hk => setRow_other w g k cs (by omega)⟩
attribute [local irreducible] wpList Code.wp clsCells
set_option maxRecDepth 100000 in
set_option maxHeartbeats 4000000 in
theorem classes_calls (w : World) :
    Calls Try.prog 74 #[] w fun e w' => e = .returned (.agg clsCells) ∧ Below w.heap.size w w' := by
  go_enter Try.func74, Try.ntmps74
  go_wp2_with (first
    | (refine wpList_buildTo rfl 146 _ rfl (some 1) rfl clsCells (by as_aux_lemma => kernel_rfl) ?_)
    | (refine wpList_store_rowTo rfl 146 _ _ rfl rfl w.heap.size clsCells rfl rfl 146 Try.zeroCells146 (heap_alloc_new _ _) (by as_aux_lemma => kernel_rfl) (by as_aux_lemma => kernel_rfl) (by as_aux_lemma => kernel_rfl) ?_))
  exact bodyPost_ret (v := .agg clsCells) (results_cell_row (p := 0) (ty := 146) rfl _ _ w.heap.size 146 clsCells (0, 0) _ rfl (setRow_heap _ _ _ _ _ _ (heap_alloc_new _ _)) Try.underlying146 rfl (by as_aux_lemma => kernel_rfl)) rfl ⟨rfl, below_setRow ((Below.refl _ _).alloc (Nat.le_refl _) _) _ (Nat.le_refl _) _⟩

structure Aside (p : Prop) : Prop where mk :: (out : p)
theorem cls_and (c : Int) : ∃ v, cls c = v ∧ (bits BinOp.and IntKind.u8 v 1 != 0) = blank c := by
  refine ⟨_, rfl, ?_⟩
  cases h : blank c with
  | true => rcases cls_blank c h with e | e <;> rw [e] <;> decide
  | false => rcases cls_not c h with e | e | e <;> rw [e] <;> decide
theorem below_drewN {B : Nat} {w W : World} (h : Below B w W) (n : Nat) : Below B w (W.drewN n) := ⟨h.os, h.tape, h.output, h.size, h.block⟩
theorem below_step {a w w1 : World} (h : Below a.heap.size a w) (hb : Below w.heap.size w w1) : Below a.heap.size a w1 := h.trans (hb.mono h.size)
theorem info5 : (Try.prog.info? 5).map (·.size) = some 1 := by kernel_rfl
theorem run_cls (c : Nat) (hc : c < 256) (v : Int) (hv : cls (c : Int) = v) (W : World) : (Instr.index 146 (.agg clsCells) (.int .u8 (c : Int))).run Try.prog W = .ok (.int .u8 v) W := by
  subst hv
  have hi := info5
  cases hq : Try.prog.info? 5 with
  | none => rw [hq] at hi; simp at hi
  | some i =>
    rw [hq] at hi
    have hs : i.size = 1 := by simpa using hi
    have hpart : clsCells[c]? = some (.int .u8 (cls (c : Int))) := by
      unfold clsCells
      simp [hc]
    have hagg : ∀ W, (isAgg 5).run Try.prog W = .ok false W := fun W => by unfold isAgg; rw [Sem.run_bind, run_underlying Try.underlying5 W]; rfl
    have h255 : ((c : Int) < 256) := by omega
    simp [Instr.index, asIntOf, run_underlying Try.underlying146, sizeOf, typeInfo, hq, hs, part, hpart, hagg]
    intro h; omega

set_option maxHeartbeats 4000000 in
set_option maxRecDepth 100000 in
theorem skip_calls (s : ByteArray) (b : Bool) (i : Nat) (w : World) (hs : s.size ≤ 140737488351232) (hi : i ≤ s.size) :
    Calls Try.prog 43 #[.string s, .int .i64 i, .int .u8 1, .bool b] w fun e w' => e = .returned (.int .i64 (skipTo s b i)) ∧ Below w.heap.size w w' := by
  go_enter Try.func43, Try.ntmps43
  go_wp2
  go_loopw [1] (fun v w' => ∃ k : Nat, v = .int .i64 k ∧ k ≤ s.size ∧ Aside (skipTo s b i = skipTo s b k) ∧ Aside (Below w.heap.size w w')) (fun v _ => s.size - (intOf v).toNat)
  case atStart => exact ⟨i, rfl, hi, ⟨rfl⟩, ⟨Below.refl _ _⟩⟩
  case round =>
    obtain ⟨k, rfl, hk, HS, HB⟩ := hrel
    by_cases hlt : k < s.size
    · have hc : (s[k].toNat) < 256 := s[k].toNat_lt
      have hstep := skipTo_step s b k hlt
      have HLT := Aside.mk hlt
      have hd : decide (k < s.size) = true := decide_eq_true hlt
      obtain ⟨v, hv, hba⟩ := cls_and ((s[k].toNat : Nat) : Int)
      have hix := run_cls s[k].toNat hc v hv
      clear hv
      cases hbl : blank ((s[k].toNat : Nat) : Int) <;> cases b <;> rw [hbl] at hba hstep
      · have HN := Aside.mk (HS.out.trans (hstep.trans (if_pos (by decide))))
        clear HS hstep hbl
        go_wp2
        go_region_held3 (fun _ => True) (trivial) (first | (go_at_call 74; refine (classes_calls _).mono ?_; rintro e w' ⟨rfl, hb⟩))
        go_wp2
        all_goals exact ⟨⟨k + 1, by go_num, HLT.out, HN, ⟨below_step HB.out.drew hb⟩⟩, by simp [intOf]; omega⟩
      · have HN := Aside.mk (HS.out.trans (hstep.trans (if_neg (by decide))))
        clear HS hstep hbl
        go_wp2
        go_region_held3 (fun _ => True) (trivial) (first | (go_at_call 74; refine (classes_calls _).mono ?_; rintro e w' ⟨rfl, hb⟩))
        go_wp2
        all_goals (go_ret; exact ⟨by rw [HN.out]; rfl, below_step HB.out.drew hb⟩)
      · have HN := Aside.mk (HS.out.trans (hstep.trans (if_neg (by decide))))
        clear HS hstep hbl
        go_wp2
        go_region_held3 (fun _ => True) (trivial) (first | (go_at_call 74; refine (classes_calls _).mono ?_; rintro e w' ⟨rfl, hb⟩))
        go_wp2
        all_goals (go_ret; exact ⟨by rw [HN.out]; rfl, below_step HB.out.drew hb⟩)
      · have HN := Aside.mk (HS.out.trans (hstep.trans (if_pos (by decide))))
        clear HS hstep hbl
        go_wp2
        go_region_held3 (fun _ => True) (trivial) (first | (go_at_call 74; refine (classes_calls _).mono ?_; rintro e w' ⟨rfl, hb⟩))
        go_wp2
        all_goals exact ⟨⟨k + 1, by go_num, HLT.out, HN, ⟨below_step HB.out.drew hb⟩⟩, by simp [intOf]; omega⟩
    · have HS2 := Aside.mk (HS.out.trans (skipTo_end s b k hlt))
      have hd : decide (k < s.size) = false := decide_eq_false hlt
      clear HS
      go_wp2
      go_quiet (fail)
      go_wp2
      go_ret
      exact ⟨by rw [HS2.out]; rfl, below_drewN HB.out _⟩

/-! ### In the printed texts' form -/
def collate_skip.f (a0 : ByteArray) (a1 : Int) (a2 : Int) (a3 : Bool) : Option Int := if a0.size ≤ 140737488351232 ∧ 0 ≤ a1 ∧ a1 ≤ (a0.size : Int) ∧ a2 = 1 then some (skipTo a0 a3 a1.toNat : Nat) else none
theorem collate_skip.calls (a0 : ByteArray) (a1 : Int) (a2 : Int) (a3 : Bool) (r : Int) (w : World) (h : collate_skip.f a0 a1 a2 a3 = some r) :
    Calls Try.prog 43 #[.string a0, .int .i64 a1, .int .u8 a2, .bool a3] w fun e w' => e = .returned (.int .i64 r) ∧ Below w.heap.size w w' := by
  unfold collate_skip.f at h
  by_cases hc : a0.size ≤ 140737488351232 ∧ 0 ≤ a1 ∧ a1 ≤ (a0.size : Int) ∧ a2 = 1
  · rw [if_pos hc] at h
    obtain ⟨hs, h0, h1, rfl⟩ := hc
    obtain rfl := Option.some.inj h
    obtain ⟨n, rfl⟩ := Int.eq_ofNat_of_zero_le h0
    exact skip_calls a0 a3 n w hs (by omega)
  · rw [if_neg hc] at h
    exact absurd h (by simp)
def strings_IndexByte.f (a0 : ByteArray) (a1 : Int) : Option Int := some (Lib.indexByte a0.data.toList a1.toNat.toUInt8)
theorem strings_IndexByte.calls (a0 : ByteArray) (a1 : Int) (r : Int) (w : World) (h : strings_IndexByte.f a0 a1 = some r) :
    Calls Try.prog 44 #[.string a0, .int .u8 a1] w fun e w' => e = .returned (.int .i64 r) ∧ Drawn0 w w' := by
  obtain rfl := Option.some.inj h
  exact (Try.strings_IndexByte a0 a1 w).mono fun e w' ⟨he, hw⟩ => ⟨he, hw ▸ Drawn0.refl _⟩
end Go.Proofs.Ytnnoegjgaelafaa
