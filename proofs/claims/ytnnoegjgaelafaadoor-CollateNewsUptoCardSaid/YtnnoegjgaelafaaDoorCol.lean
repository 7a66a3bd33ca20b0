/- The columns of an order in memory, as a kind of the printed texts' words; slices.Clone of keys. -/
import Derived.Test.YtnnoegjgaelafaaDoorPrx0
import Derived.Test.YtnnoegjgaelafaaDoorMods
namespace Go.Proofs.YtnnoegjgaelafaaDoor.Pr
open Go.RowKit Go.Proofs.YtnnoegjgaelafaaDoorW.PrintWords Go.Proofs.YtnnoegjgaelafaaDoorW.PrintLast
set_option linter.unusedVariables false
set_option linter.unusedSimpArgs false

abbrev Ky := S33
/-- A key, and how it is compared: kb: the variable that the two closures hold, which holds kind. -/
structure Col where
  key : Ky
  filt : Bool
  kind : Int
  kb : Nat
def keyCells (k : Ky) : List Value := [.int .i64 k.f0, .int .i64 k.f1, .int .i64 k.f2, .int .i64 k.f3, .int .u16 k.f4, .bool k.f5]
def Col.cells (c : Col) : List Value := [.int .i64 c.key.f0, .int .i64 c.key.f1, .int .i64 c.key.f2, .int .i64 c.key.f3, .int .u16 c.key.f4, .bool c.key.f5, .bool c.filt,
  .func (.func 53) #[] #[.pointer (some ⟨c.kb, 0, none⟩)], .func (.func 55) #[] #[.pointer (some ⟨c.kb, 0, none⟩)]]
def Col.holds (w : World) (c : Col) : Prop := w.heap[c.kb]? = some (.cells #[.int .u16 c.kind] 24 (0, 0))
def kCol : Kd Col where
  sz := 9
  E := [24]
  K w c cs := cs = c.cells ∧ c.holds w
  M w base ok c cs := cs = c.cells ∧ c.holds w ∧ ok c.kb ∧ base ≤ c.kb
  K_len := by rintro w x cs ⟨rfl, _⟩; rfl
  K_one := by
    rintro w x cs ⟨rfl, _⟩ u hu
    simp only [Col.cells, List.mem_cons, List.not_mem_nil, or_false] at hu
    rcases hu with rfl | rfl | rfl | rfl | rfl | rfl | rfl | rfl | rfl <;> rfl
  K_below := by
    rintro w w1 x cs hb ⟨rfl, h⟩
    refine ⟨rfl, ?_⟩
    unfold Col.holds at h ⊢
    rw [hb.block _ (Array.getElem?_eq_some_iff.1 h).1]; exact h
  K_of_M := fun h => ⟨h.1, h.2.1⟩
  M_mono := fun h hm => ⟨hm.1, hm.2.1, h _ hm.2.2.1, hm.2.2.2⟩
  M_bound := by
    rintro w base ok x cs ⟨rfl, h, h1, h2⟩
    exact ⟨rfl, h, ⟨h1, h2, (Array.getElem?_eq_some_iff.1 h).1, 24, by simp, _, h⟩, h2⟩
  M_move := by
    rintro w w1 base ok x cs hm ⟨rfl, h, h1, h2⟩
    refine ⟨rfl, ?_, h1, h2⟩
    unfold Col.holds at h ⊢
    rw [hm _ h1]; exact h
  M_lower := fun hl hm => ⟨hm.1, hm.2.1, hm.2.2.1, Nat.le_trans hl hm.2.2.2⟩

theorem infoKey : (Tryd.prog.info? 33).map (fun i => (i.zero, i.size, i.bytes)) = some (some (.agg #[.int .i64 0, .int .i64 0, .int .i64 0, .int .i64 0, .int .u16 0, .bool false]), 6, 40) := by kernel_rfl
theorem infoCol : (Tryd.prog.info? 71).map (fun i => (i.zero, i.size, i.bytes)) = some (some (.agg #[.int .i64 0, .int .i64 0, .int .i64 0, .int .i64 0, .int .u16 0, .bool false, .bool false, .nilFunc, .nilFunc]), 9, 64) := by kernel_rfl

theorem key_made {w W : World} {base : Nat} {ok : Nat → Prop} {x : Ky} {cs : List Value} (h : k33.K w x cs) : k33.M W base ok x cs := by
  rw [k33_open h]; exact k33_mkM _ _ _ _
/-- An empty slice that is not nil, in a new block. -/
theorem empty_R {α : Type} (d : Kd α) (e : TypeId) (w : World) : d.R e (w.alloc (.cells #[] e)) w.heap.size (fun _ => True) (.slice (some ⟨w.heap.size, 0, none⟩) 0 0) [] :=
  ⟨fun _ _ => trivial, [], ⟨by simp, .inr ⟨w.heap.size, 0, #[], rfl, Nat.le_refl _, heap_alloc_new _ _, Nat.le_refl _, by decide, by simp, by simp⟩⟩, Reps.none _ _⟩
theorem reads_alloc {α : Type} {R : α → List Value → Prop} {sz : Nat} {w : World} {A : Option Addr} {n : Nat} {xs : List α} (h : ReadsRow R sz w A n xs) (o : Obj) : ReadsRow R sz (w.alloc o) A n xs :=
  ReadsRow.imp_ h ((Below.refl _ _).alloc (Nat.le_refl _) _) (fun _ _ hp => hp)

set_option maxHeartbeats 4000000 in
set_option maxRecDepth 100000 in
theorem clone_keys (A0 : Option Addr) (c0 : Nat) (l0 : List Ky) (w : World) (hr0 : Kd.C k33 w A0 l0.length l0) (hc0 : l0.length ≤ c0) (hl : l0.length ≤ 1000000) :
    Calls Tryd.prog 51 #[.slice A0 l0.length c0] w fun e w' => ∃ v0 : Value, e = .returned v0 ∧ Kd.R k33 33 w' w.heap.size (fun _ => True) v0 l0 ∧ Below w.heap.size w w' := by
  have hq := fun (W : World) (n c : Nat) (A : Option Addr) => Lib.run_eql_slice_nil (P := Tryd.prog) W 22 33 A n c 0 0 Tryd.underlying22
  cases A0 with
  | none =>
    have h0 : l0 = [] := by
      rcases Nat.eq_zero_or_pos l0.length with h0 | h0
      · exact List.eq_nil_of_length_eq_zero h0
      · obtain ⟨ad, h, _⟩ := hr0.2.2 h0
        cases h
    subst h0
    go_enter Tryd.func51, Tryd.ntmps51
    go_wp2
    go_ret
    exact ⟨_, rfl, Kd.R_nil _ _ _ _ _, Below.refl _ _⟩
  | some a =>
    go_enter Tryd.func51, Tryd.ntmps51
    go_wp2_with (first | (at_builtin; refine Kd.R_append_rows (Rr := k33.K w) k33 (w0 := w) w.heap.size rfl (.tmp 5) (.tmp 6) 22 33 (.agg #[.int .i64 0, .int .i64 0, .int .i64 0, .int .i64 0, .int .u16 0, .bool false]) 40 rfl Tryd.underlying22 infoKey rfl (by decide) (by omega) (.slice (some ⟨w.heap.size, 0, none⟩) 0 0) [] l0 _ _ _ (fun _ => True) (fun _ => False) rfl rfl ?aO ?aR (fun x cs h => key_made h) (fun _ h => h.elim) ?aF ?aB ?aS ?aL ?_))
    case aO => exact empty_R _ _ _
    case aR => exact reads_alloc hr0 _
    case aF => exact fun _ _ => trivial
    case aB => exact (Below.refl _ _).alloc (Nat.le_refl _) _
    case aS => simp
    case aL => simp; omega
    intro v1 w1 hR hB hg hat
    go_wp2
    go_ret
    exact ⟨_, rfl, by simpa using hR, hB⟩
end Go.Proofs.YtnnoegjgaelafaaDoor.Pr
