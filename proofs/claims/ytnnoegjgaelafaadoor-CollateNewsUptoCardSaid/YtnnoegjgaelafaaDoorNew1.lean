/- The program's New refuses options whose numbers are out of bounds. -/
import Derived.Test.YtnnoegjgaelafaaDoorEff
import Derived.Test.YtnnoegjgaelafaaDoorPrx2
namespace Go.Proofs.YtnnoegjgaelafaaDoor.Pr
open Go.RowKit Go.Proofs.YtnnoegjgaelafaaDoorW.PrintWords Go.Proofs.YtnnoegjgaelafaaDoorW.PrintLast
set_option linter.unusedVariables false
set_option linter.unusedSimpArgs false

/-- Options as a value: the first five fields, and the rest. -/
structure Rest where
  r5 : Bool
  r6 : Bool
  r7 : Int
  r8 : ByteArray
  r9 : Bool
  r10 : Int
  r11 : Int
  r12 : Int
  r13 : Int
  r14 : ByteArray
  r15 : Bool
  r16 : ByteArray
  r17 : Value
def optVal (v : Value) (m t : Int) (st un : Bool) (r : Rest) : Array Value := #[v, .int .u16 m, .int .i64 t, .bool st, .bool un, .bool r.r5, .bool r.r6, .int .u8 r.r7, .string r.r8, .bool r.r9, .int .i64 r.r10, .int .i64 r.r11, .int .i64 r.r12, .int .i64 r.r13, .string r.r14, .bool r.r15, .string r.r16, r.r17]
theorem bstep {a w w1 : World} (h : Below a.heap.size a w) (hb : Below w.heap.size w w1) : Below a.heap.size a w1 := h.trans (hb.mono h.size)
def NewBad (w : World) (e : Ending) (w' : World) : Prop := e = .returned (.tuple #[.pointer none, .int .i64 50]) ∧ Below w.heap.size w w'
set_option maxRecDepth 100000 in
theorem new_bad1 (A0 : Option Addr) (n c0 : Nat) (m t : Int) (st un : Bool) (r : Rest) (w : World) (h : 16 < n) (hn : n ≤ 1000000000) :
    Calls Tryd.prog 29 #[.agg (optVal (.slice A0 n c0) m t st un r)] w (NewBad w) := by
  have hu := Tryd.underlying28
  unfold optVal
  go_enter Tryd.func29, Tryd.ntmps29
  go_wp2
  go_ret2
  exact ⟨rfl, (Below.refl _ _).alloc (Nat.le_refl _) _⟩
set_option maxRecDepth 100000 in
theorem new_bad2 (A0 : Option Addr) (n c0 : Nat) (m t : Int) (st un : Bool) (r : Rest) (w : World) (h : n ≤ 16) (h2 : t < -1) :
    Calls Tryd.prog 29 #[.agg (optVal (.slice A0 n c0) m t st un r)] w (NewBad w) := by
  have hu := Tryd.underlying28
  unfold optVal
  go_enter Tryd.func29, Tryd.ntmps29
  go_wp2
  go_ret2
  exact ⟨rfl, (Below.refl _ _).alloc (Nat.le_refl _) _⟩
set_option maxRecDepth 100000 in
theorem new_bad3 (A0 : Option Addr) (n c0 : Nat) (m t : Int) (st un : Bool) (r : Rest) (w : World) (h : n ≤ 16) (h2 : 255 < t) :
    Calls Tryd.prog 29 #[.agg (optVal (.slice A0 n c0) m t st un r)] w (NewBad w) := by
  have hu := Tryd.underlying28
  have h3 : ¬ t < -1 := by omega
  unfold optVal
  go_enter Tryd.func29, Tryd.ntmps29
  go_wp2
  go_ret2
  exact ⟨rfl, (Below.refl _ _).alloc (Nat.le_refl _) _⟩
set_option maxRecDepth 100000 in
theorem new_bad4 (A0 : Option Addr) (n c0 : Nat) (m t : Int) (st un : Bool) (r : Rest) (w : World) (h : n ≤ 16) (h2 : t ≤ 255) (h3 : -1 ≤ t) (h4 : (bits .andNot .u16 m 1023 != 0) = true) :
    Calls Tryd.prog 29 #[.agg (optVal (.slice A0 n c0) m t st un r)] w (NewBad w) := by
  have hu := Tryd.underlying28
  unfold optVal
  go_enter Tryd.func29, Tryd.ntmps29
  go_wp2
  go_ret2
  exact ⟨rfl, (Below.refl _ _).alloc (Nat.le_refl _) _⟩

/-- What right answers of a key. -/
def rightB (k : Ky) : Bool := (collate_right.f k.f0 k.f1 k.f2 k.f3 k.f4 k.f5).getD false
theorem right_some (k : Ky) : collate_right.f k.f0 k.f1 k.f2 k.f3 k.f4 k.f5 = some (rightB k) := by
  have : ∃ b, collate_right.f k.f0 k.f1 k.f2 k.f3 k.f4 k.f5 = some b := by
    unfold collate_right.f
    repeat' (split <;> try exact ⟨_, rfl⟩)
  obtain ⟨b, hb⟩ := this
  unfold rightB; rw [hb]; rfl
set_option maxHeartbeats 8000000 in
set_option maxRecDepth 100000 in
theorem new_keys (A0 : Option Addr) (c0 : Nat) (l0 : List Ky) (m t : Int) (st un : Bool) (r : Rest) (w : World) (hr0 : Kd.C k33 w A0 l0.length l0) (hc0 : l0.length ≤ c0) (h : l0.length ≤ 16) (h2 : t ≤ 255) (h3 : -1 ≤ t) (h4 : (bits .andNot .u16 m 1023 != 0) = false)
    (hbad : ∃ k ∈ l0, rightB k = false) :
    Calls Tryd.prog 29 #[.agg (optVal (.slice A0 l0.length c0) m t st un r)] w (NewBad w) := by
  have hu := Tryd.underlying28
  have hu2 := Tryd.underlying33
  have HR0 := Aside0.mk hr0
  clear hr0
  unfold optVal
  go_enter Tryd.func29, Tryd.ntmps29
  go_wp2
  go_loopw [33] (fun v wr => ∃ i : Nat, v = .int .i64 i ∧ i ≤ l0.length ∧ Aside0 (∀ j (hj : j < l0.length), j < i → rightB l0[j] = true) ∧ Aside0 (Below w.heap.size w wr)) (fun v _ => l0.length - (intOf v).toNat)
  case atStart => exact ⟨0, rfl, Nat.zero_le _, ⟨fun j _ hj => absurd hj (Nat.not_lt_zero _)⟩, ⟨(Below.refl _ _).alloc (Nat.le_refl _) _⟩⟩
  case round =>
    obtain ⟨i, rfl, hi, HJ, HB⟩ := hrel
    by_cases hlt : i < l0.length
    · have HLT := Aside0.mk hlt
      obtain ⟨ad, e, x0, x1, x2, x3, x4, x5⟩ := at_T33 (Kd.C_below HR0.out HB.out) (i : Int) (by omega) (by omega)
      subst e
      have hrd : rd_T33 l0 (i : Int) = l0[i] := by simp [rd_T33, hlt]
      rw [hrd] at x0 x1 x2 x3 x4 x5
      simp only [Int.toNat_natCast] at x0 x1 x2 x3 x4 x5
      have HC := Aside0.mk (fun W => collate_right.calls l0[i].f0 l0[i].f1 l0[i].f2 l0[i].f3 l0[i].f4 l0[i].f5 (rightB l0[i]) W (right_some l0[i]))
      clear hrd
      generalize hkx : l0[i] = kx at *
      have HK := Aside0.mk hkx
      clear hkx
      cases hb : rightB kx
      · have HRB := Aside0.mk hb
        rw [hb] at HC
        clear hb
        go_wp2_with fail
        refine (HC.out _).mono ?_
        rintro e w1 ⟨rfl, hb1⟩
        have HB1 := Aside0.mk (bstep (HB.out.alloc HB.out.size _) hb1)
        clear hb1
        go_wp2
        go_ret2
        exact ⟨rfl, HB1.out⟩
      · have HRB := Aside0.mk hb
        rw [hb] at HC
        clear hb
        go_wp2_with fail
        refine (HC.out _).mono ?_
        rintro e w1 ⟨rfl, hb1⟩
        have HB1 := Aside0.mk (bstep (HB.out.alloc HB.out.size _) hb1)
        clear hb1
        go_wp2
        go_roundw
        case rel => exact ⟨i + 1, by go_num, HLT.out, ⟨fun j hj hji => by
          by_cases e : j = i
          · subst e; rw [HK.out]; exact HRB.out
          · exact HJ.out j hj (by omega)⟩, HB1⟩
        case measure => simp [intOf]; omega
    · exfalso
      obtain ⟨k, hk, hf⟩ := hbad
      obtain ⟨j, hj, rfl⟩ := List.getElem_of_mem hk
      have := HJ.out j hj (by omega)
      rw [this] at hf; cases hf
end Go.Proofs.YtnnoegjgaelafaaDoor.Pr
