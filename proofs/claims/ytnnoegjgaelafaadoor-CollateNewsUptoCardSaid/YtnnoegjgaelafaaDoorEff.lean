/- What the program's Effective answers: each key with the modifiers in force, in a new list. -/
import Derived.Test.YtnnoegjgaelafaaDoorCol
import Derived.LoopTactic
import Derived.Deep.LoopGhost
namespace Go.Proofs.YtnnoegjgaelafaaDoor.Pr
open Go.RowKit Go.Proofs.YtnnoegjgaelafaaDoorW.PrintWords Go.Proofs.YtnnoegjgaelafaaDoorW.PrintLast
set_option linter.unusedVariables false
set_option linter.unusedSimpArgs false

def effKey (m : Int) (b : Bool) (k : Ky) : Ky := if k.f4 == 0 && !k.f5 then { k with f4 := m, f5 := b } else k
def effKeys (m : Int) (b : Bool) (l : List Ky) : List Ky := if l = [] then [⟨1, 1, 0, 0, m, b⟩] else l.map (effKey m b)
def modB (m : Int) : Bool := bits .and .u16 m 1 != 0
def optCells (v : Value) (m t : Int) : Array Value := #[v, .int .u16 m, .int .i64 t, .bool false, .bool false, .bool false, .bool false, .int .u8 0, .string ⟨#[]⟩, .bool false, .int .i64 0, .int .i64 0, .int .i64 0, .int .i64 0, .string ⟨#[]⟩, .bool false, .string ⟨#[]⟩, .slice none 0 0]

theorem optCells_def (v : Value) (m t : Int) : optCells v m t = #[v, .int .u16 m, .int .i64 t, .bool false, .bool false, .bool false, .bool false, .int .u8 0, .string ⟨#[]⟩, .bool false, .int .i64 0, .int .i64 0, .int .i64 0, .int .i64 0, .string ⟨#[]⟩, .bool false, .string ⟨#[]⟩, .slice none 0 0] := rfl
theorem key_M (W : World) (base : Nat) (ok : Nat → Prop) (k : Ky) : k33.M W base ok k (keyCells k) := k33_mkM _ _ _ _

/-- One key in a new block. -/
theorem one_R (W : World) (base : Nat) (hb : base ≤ W.heap.size) (k : Ky) : Kd.R k33 33 (W.alloc (.cells (keyCells k).toArray 33)) base (fun _ => True) (.slice (some ⟨W.heap.size, 0, none⟩) 1 1) [k] :=
  ⟨fun _ _ => trivial, keyCells k, ⟨rfl, .inr ⟨W.heap.size, 1, (keyCells k).toArray, rfl, hb, heap_alloc_new _ _, Nat.le_refl _, by decide, rfl, rfl⟩⟩, ⟨rfl, fun j p hj => by
    match j, hj with
    | 0, hj => simp at hj; subst hj; exact key_M _ _ _ _⟩⟩
set_option maxHeartbeats 8000000 in
set_option maxRecDepth 100000 in
theorem effective_none (A0 : Option Addr) (c0 : Nat) (m t : Int) (w : World) :
    Calls Tryd.prog 50 #[.agg (optCells (.slice A0 0 c0) m t)] w fun e w' => ∃ v0 : Value, e = .returned v0 ∧ Kd.R k33 33 w' w.heap.size (fun _ => True) v0 (effKeys m (modB m) []) ∧ Below w.heap.size w w' := by
  have hu := Tryd.underlying28
  have hu2 := Tryd.underlying33
  cases hmb : (bits .and .u16 m 1 != 0)
  all_goals
    have HM := Aside0.mk hmb
    rw [optCells_def]
    go_enter Tryd.func50, Tryd.ntmps50
    go_wp2
    go_ret
    refine ⟨_, rfl, ?_, ((Below.refl _ _).alloc (Nat.le_refl _) _).alloc (by simp) _⟩
    have h1 := one_R (w.alloc (.cells (optCells (.slice A0 0 c0) m t) 28)) w.heap.size (by simp) (⟨1, 1, 0, 0, m, modB m⟩ : Ky)
    have e : modB m = _ := HM.out
    rw [e] at h1
    have e2 : effKeys m (modB m) [] = [(⟨1, 1, 0, 0, m, modB m⟩ : Ky)] := rfl
    rw [e2, e]
    rw [optCells_def] at h1
    simpa [keyCells] using h1

/-- The keys, the first i of them with what is in force. -/
def effUpto (m : Int) (b : Bool) (l : List Ky) (i : Nat) : List Ky := (l.take i).map (effKey m b) ++ l.drop i
theorem effUpto_length (m : Int) (b : Bool) (l : List Ky) (i : Nat) : (effUpto m b l i).length = l.length := by simp [effUpto]; omega
theorem effUpto_at (m : Int) (b : Bool) (l : List Ky) (i : Nat) (h : i < l.length) : rd_T33 (effUpto m b l i) (i : Int) = l[i] := by
  have h2 : min i l.length = i := by omega
  simp [rd_T33, effUpto, List.getD_eq_getElem?_getD, List.getElem?_append, h, h2]
theorem effUpto_keep (m : Int) (b : Bool) (l : List Ky) (i : Nat) (h : i < l.length) (hk : effKey m b l[i] = l[i]) : effUpto m b l (i + 1) = effUpto m b l i := by
  unfold effUpto
  rw [List.take_succ_eq_append_getElem h, List.map_append, List.append_assoc]
  simp [hk]
theorem effUpto_set (m : Int) (b : Bool) (l : List Ky) (i : Nat) (h : i < l.length) : (effUpto m b l i).set i (effKey m b l[i]) = effUpto m b l (i + 1) := by
  unfold effUpto
  rw [List.take_succ_eq_append_getElem h, List.map_append, List.append_assoc]
  rw [List.set_append_right _ _ (by simp; omega)]
  have e : i - (List.map (effKey m b) (List.take i l)).length = 0 := by simp; omega
  rw [e, List.drop_eq_getElem_cons h]
  simp only [List.set_cons_zero, List.map_cons, List.map_nil, List.singleton_append]
/-- Two fields of element i are written. -/
theorem two_set {wr : World} {base g n cap : Nat} {xs : List Ky} (h : Kd.R k33 33 wr base (fun _ => True) (.slice (some ⟨g, 0, none⟩) n cap) xs) (i : Nat) (hi : i < n) (m : Int) (b : Bool) :
    Kd.R k33 33 ((wr.setCell ⟨g, i * 6 + 4, none⟩ (.int .u16 m)).setCell ⟨g, i * 6 + 5, none⟩ (.bool b)) base (fun _ => True) (.slice (some ⟨g, 0, none⟩) n cap) (xs.set i { rd_T33 xs (i : Int) with f4 := m, f5 := b }) ∧ base ≤ g := by
  obtain ⟨hn, _, hC⟩ := Kd.R_reads' h
  obtain ⟨ad, e, x0, x1, x2, x3, x4, x5⟩ := at_T33 hC (i : Int) (by omega) (by omega)
  obtain rfl := Option.some.inj e
  simp only [add_plain, Int.toNat_natCast] at x0 x1 x2 x3 x4 x5
  have hs := (Kd.R_seg h (i : Int) (by omega) (by omega) (c := keyCells (rd_T33 xs (i : Int))) (seg := [.int .u16 m, .bool b]) (j := 4) (okp := fun _ => False) (x' := { rd_T33 xs (i : Int) with f4 := m, f5 := b }) rfl
    (fun j u hj => by
      match j, hj with
      | 0, hj => simp [keyCells] at hj; subst hj; exact x0
      | 1, hj => simp [keyCells] at hj; subst hj; exact x1
      | 2, hj => simp [keyCells] at hj; subst hj; exact x2
      | 3, hj => simp [keyCells] at hj; subst hj; exact x3
      | 4, hj => simp [keyCells] at hj; subst hj; exact x4
      | 5, hj => simp [keyCells] at hj; subst hj; exact x5)
    (Nat.le_refl 6) (key_M _ _ _ _) (fun _ h => h.elim)).1
  rw [Int.toNat_natCast] at hs
  exact ⟨hs, Kd.R_base h g (by simp [Value.ownBlock])⟩
set_option maxHeartbeats 8000000 in
set_option maxRecDepth 100000 in
theorem effective_some (A0 : Option Addr) (c0 : Nat) (l0 : List Ky) (m t : Int) (w : World) (hr0 : Kd.C k33 w A0 l0.length l0) (hc0 : l0.length ≤ c0) (hl : l0.length ≤ 1000000) (hp : 0 < l0.length) :
    Calls Tryd.prog 50 #[.agg (optCells (.slice A0 l0.length c0) m t)] w fun e w' => ∃ v0 : Value, e = .returned v0 ∧ Kd.R k33 33 w' w.heap.size (fun _ => True) v0 (effKeys m (modB m) l0) ∧ Below w.heap.size w w' := by
  have hu := Tryd.underlying28
  have hu2 := Tryd.underlying33
  have hd : ((l0.length : Int) == 0) = false := by rw [beq_eq_false_iff_ne]; omega
  have HC := Aside0.mk (fun o => clone_keys A0 c0 l0 (w.alloc o) (reads_alloc hr0 o) hc0 hl)
  have HL := Aside0.mk (show effKeys m (modB m) l0 = effUpto m (modB m) l0 l0.length by unfold effKeys effUpto; rw [if_neg (by intro h; rw [h] at hp; cases hp)]; simp)
  have H0 := Aside0.mk (show l0 = effUpto m (modB m) l0 0 by simp [effUpto])
  cases hmb : (bits .and .u16 m 1 != 0)
  all_goals
    have HM := Aside0.mk (show modB m = _ from hmb)
    rw [optCells_def]
    go_enter Tryd.func50, Tryd.ntmps50
    go_wp2_with fail
    refine (HC.out _).mono ?_
    rintro e w1 ⟨v0, rfl, hR, hB⟩
    obtain ⟨g, cap, rfl, hg0, hg1, _⟩ := Kd.R_form hR hp
    have HR := Aside0.mk hR
    have HB := Aside0.mk hB
    have HG := Aside0.mk hg0
    clear hR hB hg0
    go_wp2
    have hb1 : (w.alloc (.cells (optCells (.slice A0 l0.length c0) m t) 28)).cell? ⟨w.heap.size, 1, none⟩ = some (.int .u16 m) := by
      unfold World.cell?
      rw [heap_alloc_new]
      rfl
    go_loopw [25] (fun v wr => ∃ i : Nat, v = .int .i64 i ∧ i ≤ l0.length ∧ Aside0 (Kd.R k33 33 wr (w.heap.size + 1) (fun _ => True) (.slice (some ⟨g, 0, none⟩) l0.length cap) (effUpto m (modB m) l0 i)) ∧ Aside0 (Below (w.heap.size + 1) (w.alloc (.cells (optCells (.slice A0 l0.length c0) m t) 28)) wr)) (fun v _ => l0.length - (intOf v).toNat)
    case atStart => exact ⟨0, rfl, Nat.zero_le _, ⟨by rw [← H0.out]; simpa using HR.out⟩, ⟨by simpa [optCells_def] using HB.out⟩⟩
    case round =>
      obtain ⟨i, rfl, hi, HRi, HBi⟩ := hrel
      have hbox : wr.cell? ⟨w.heap.size, 1, none⟩ = some (.int .u16 m) := (HBi.out.cell (p := ⟨w.heap.size, 1, none⟩) (by simp)).trans hb1
      by_cases hlt : i < l0.length
      · have hC := (Kd.R_reads' HRi.out).2.2
        rw [effUpto_length] at hC
        obtain ⟨_, _, hge, _, _, cur, hblk⟩ := Kd.R_form HRi.out (by rw [effUpto_length]; exact hp)
        obtain rfl : g = _ := by injection hge with h1; injection h1 with h1; injection h1
        have hf4 := blk_frozen hblk (i * 6 + 4)
        have hf5 := blk_frozen hblk (i * 6 + 5)
        clear hge hblk
        obtain ⟨ad, e, _, _, _, _, x4, x5⟩ := at_T33 hC (i : Int) (by omega) (by omega)
        rw [effUpto_at m (modB m) l0 i hlt] at x4 x5
        obtain rfl := Option.some.inj e
        simp only [add_plain, Int.toNat_natCast] at x4 x5
        have hlti : decide (i < l0.length) = true := decide_eq_true hlt
        have HLT := Aside0.mk hlt
        clear hC
        by_cases hk : (l0[i].f4 == 0) = true
        · cases hk5 : l0[i].f5
          · have hN := effUpto_set m (modB m) l0 i hlt
            have hE : effKey m (modB m) l0[i] = { l0[i] with f4 := m, f5 := modB m } := by unfold effKey; rw [hk, hk5]; rfl
            have HN := Aside0.mk hN
            have HE := Aside0.mk hE
            rw [hk5] at x5
            clear hN hE hk5
            go_wp2
            obtain ⟨h2, hgb⟩ := two_set HRi.out i HLT.out m (modB m)
            rw [effUpto_at m (modB m) l0 i HLT.out, ← HE.out, HN.out] at h2
            have hB2 := (HBi.out.setCell (p := ⟨g, i * 6 + 4, none⟩) hgb (.int .u16 m)).setCell (p := ⟨g, i * 6 + 5, none⟩) hgb (.bool (modB m))
            have e := HM.out
            rw [e] at h2 hB2
            have H2 := Aside0.mk (show Kd.R k33 33 _ _ _ _ (effUpto m (modB m) l0 (i + 1)) by rw [e]; exact h2)
            have HB2 := Aside0.mk hB2
            clear h2 hB2 e
            go_roundw
            case rel => exact ⟨i + 1, by go_num, HLT.out, H2, HB2⟩
            case measure => simp [intOf]; omega
          · have hN := effUpto_keep m (modB m) l0 i hlt (by unfold effKey; rw [hk5]; simp)
            have HN := Aside0.mk hN
            rw [hk5] at x5
            clear hN hk5
            go_wp2
            go_roundw
            case rel => exact ⟨i + 1, by go_num, HLT.out, ⟨by rw [HN.out]; exact HRi.out⟩, HBi⟩
            case measure => simp [intOf]; omega
        · have hk' : (l0[i].f4 == 0) = false := by simpa using hk
          clear hk
          have hN := effUpto_keep m (modB m) l0 i hlt (by unfold effKey; rw [hk']; simp)
          have HN := Aside0.mk hN
          clear hN
          go_wp2
          go_roundw
          case rel => exact ⟨i + 1, by go_num, HLT.out, ⟨by rw [HN.out]; exact HRi.out⟩, HBi⟩
          case measure => simp [intOf]; omega
      · have hge : i = l0.length := by omega
        subst hge
        go_wp2
        go_ret
        refine ⟨_, rfl, ?_, ?_⟩
        · rw [HL.out]; exact Kd.R_lower HRi.out (Nat.le_succ _)
        · exact (((Below.refl _ _).alloc (Nat.le_refl _) _).trans (HBi.out.mono (by omega)))
theorem effective_any (A0 : Option Addr) (c0 : Nat) (l0 : List Ky) (m t : Int) (w : World) (hr0 : Kd.C k33 w A0 l0.length l0) (hc0 : l0.length ≤ c0) (hl : l0.length ≤ 1000000) :
    Calls Tryd.prog 50 #[.agg #[.slice A0 l0.length c0, .int .u16 m, .int .i64 t, .bool false, .bool false, .bool false, .bool false, .int .u8 0, .string ⟨#[]⟩, .bool false, .int .i64 0, .int .i64 0, .int .i64 0, .int .i64 0, .string ⟨#[]⟩, .bool false, .string ⟨#[]⟩, .slice none 0 0]] w fun e w' => ∃ v0 : Value, e = .returned v0 ∧ Kd.R k33 33 w' w.heap.size (fun _ => True) v0 (effKeys m (modB m) l0) ∧ Below w.heap.size w w' := by
  rw [← optCells_def]
  rcases Nat.eq_zero_or_pos l0.length with h0 | hp
  · have := List.eq_nil_of_length_eq_zero h0
    subst this
    exact effective_none A0 c0 m t w
  · exact effective_some A0 c0 l0 m t w hr0 hc0 hl hp
end Go.Proofs.YtnnoegjgaelafaaDoor.Pr
