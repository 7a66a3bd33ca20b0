/- What the options of a law's call hold, opened once: a slice of keys that is read, whole numbers in their bounds. -/
import Derived.ChangeArms
import Derived.ChangeShapes
import Derived.WideShapes
import Derived.DataElems
import Derived.Test.YtnnoegjgaelafaaDoorQWholeAw
import Derived.Test.YtnnoegjgaelafaaDoorRows
namespace Go.Proofs.YtnnoegjgaelafaaDoor.Pr
open Go.RowKit Go.WideShapes Go.Proofs.YtnnoegjgaelafaaDoorW.PrintWords Go.Proofs.YtnnoegjgaelafaaDoorW.PrintLast
set_option linter.unusedVariables false
set_option linter.unusedSimpArgs false

theorem bulk_one {H : Type} (d : DataW H) : 1 ≤ Rows.uptoBulk d := by
  cases d with
  | lit l => cases l <;> simp [Rows.uptoBulk]
  | nil => simp [Rows.uptoBulk]
  | ptr d => simp [Rows.uptoBulk]
  | slice elems spare => simp [Rows.uptoBulk]
  | agg parts => simp [Rows.uptoBulk]
  | iface t d => simp [Rows.uptoBulk]
  | map entries => simp [Rows.uptoBulk]
  | held h => simp [Rows.uptoBulk]
theorem bulk_part {H : Type} {d : DataW H} : ∀ {l : List (DataW H)}, d ∈ l → Rows.uptoBulk d ≤ Rows.uptoBulkAll l
  | [], h => by cases h
  | x :: r, h => by
    simp only [Rows.uptoBulkAll]
    rcases List.mem_cons.1 h with e | e
    · subst e; omega
    · have := bulk_part e; omega
theorem bulk_len {H : Type} : ∀ (l : List (DataW H)), l.length ≤ Rows.uptoBulkAll l
  | [] => Nat.le_refl _
  | x :: r => by
    simp only [Rows.uptoBulkAll, List.length_cons]
    have := bulk_one x
    have := bulk_len r
    omega
theorem bulk_len2 {H : Type} : ∀ (l : List (DataW H)), (∀ d ∈ l, 2 ≤ Rows.uptoBulk d) → 2 * l.length ≤ Rows.uptoBulkAll l
  | [], _ => Nat.le_refl _
  | x :: r, h => by
    simp only [Rows.uptoBulkAll, List.length_cons]
    have := h x List.mem_cons_self
    have := bulk_len2 r (fun d hd => h d (List.mem_cons_of_mem _ hd))
    omega
theorem exists_list {α : Type} (P : Nat → α → Prop) : ∀ (n : Nat), (∀ i, i < n → ∃ k, P i k) → ∃ l : List α, l.length = n ∧ ∀ i k, l[i]? = some k → P i k
  | 0, _ => ⟨[], rfl, fun i k h => by simp at h⟩
  | n + 1, h => by
    obtain ⟨l, hl, hp⟩ := exists_list P n (fun i hi => h i (by omega))
    obtain ⟨k, hk⟩ := h n (Nat.lt_succ_self n)
    refine ⟨l ++ [k], by simp [hl], fun i x hx => ?_⟩
    by_cases hi : i < n
    · rw [List.getElem?_append_left (by omega)] at hx; exact hp i x hx
    · rw [List.getElem?_append_right (by omega)] at hx
      have : i - l.length = 0 := by
        rcases Nat.eq_zero_or_pos (i - l.length) with h0 | h0
        · exact h0
        · rw [List.getElem?_eq_none (by simp; omega)] at hx; cases hx
      rw [this] at hx
      simp at hx
      have hin : i = n := by omega
      subst hx; subst hin; exact hk
section
variable {H : Type} {enc : TypeId × Value → H} {w : World} {base : Nat} {spare : Nat → Bool} {held : Bool}
def KeyOk (k : Ky) : Prop := ∃ n : Nat, k.f4 = (n : Int) ∧ n < 65536
theorem wf_u16 {x : Int} (h : (Lit.int .u16 x).wf = true) : ∃ n : Nat, x = (n : Int) ∧ n < 65536 := by
  simp [Lit.wf] at h
  have e1 : IntKind.u16.min = 0 := rfl
  have e2 : IntKind.u16.max = 65535 := rfl
  exact ⟨x.toNat, by omega, by omega⟩
theorem six {cs : List Value} (h : cs.length = 6) : ∃ c0 c1 c2 c3 c4 c5, cs = [c0, c1, c2, c3, c4, c5] := by
  match cs, h with
  | [c0, c1, c2, c3, c4, c5], _ => exact ⟨c0, c1, c2, c3, c4, c5, rfl⟩
theorem open_key {fuel : Nat} {cs : List Value} {x : DataW H × List MemPlace} (h : DataW.trod enc Tryd.prog w base spare held fuel 33 cs = some x) : (∃ k : Ky, cs = keyCells k ∧ KeyOk k) ∧ 2 ≤ Rows.uptoBulk x.1 := by
  obtain ⟨xs, n, rfl, rfl, hl, hx, hf⟩ := DataW.trod_struct Tryd.underlying33 h
  have q33 : Tryd.prog.cellsOf 33 = 6 := by kernel_rfl
  have q3 : Tryd.prog.cellsOf 3 = 1 := by kernel_rfl
  have q24 : Tryd.prog.cellsOf 24 = 1 := by kernel_rfl
  have q4 : Tryd.prog.cellsOf 4 = 1 := by kernel_rfl
  rw [q33] at hl
  obtain ⟨c0, c1, c2, c3, c4, c5, rfl⟩ := six hl
  have h0 : DataW.trod enc Tryd.prog w base spare held n 3 (([c0, c1, c2, c3, c4, c5].drop 0).take (Tryd.prog.cellsOf 3)) = xs[0]? := hf 0 _ rfl
  have h1 : DataW.trod enc Tryd.prog w base spare held n 3 (([c0, c1, c2, c3, c4, c5].drop 1).take (Tryd.prog.cellsOf 3)) = xs[1]? := hf 1 _ rfl
  have h2 : DataW.trod enc Tryd.prog w base spare held n 3 (([c0, c1, c2, c3, c4, c5].drop 2).take (Tryd.prog.cellsOf 3)) = xs[2]? := hf 2 _ rfl
  have h3 : DataW.trod enc Tryd.prog w base spare held n 3 (([c0, c1, c2, c3, c4, c5].drop 3).take (Tryd.prog.cellsOf 3)) = xs[3]? := hf 3 _ rfl
  have h4 : DataW.trod enc Tryd.prog w base spare held n 24 (([c0, c1, c2, c3, c4, c5].drop 4).take (Tryd.prog.cellsOf 24)) = xs[4]? := hf 4 _ rfl
  have h5 : DataW.trod enc Tryd.prog w base spare held n 4 (([c0, c1, c2, c3, c4, c5].drop 5).take (Tryd.prog.cellsOf 4)) = xs[5]? := hf 5 _ rfl
  have hx : xs.length = 6 := hx
  rw [List.getElem?_eq_getElem (by omega)] at h0 h1 h2 h3 h4 h5
  simp only [q3, q24, q4, List.drop_succ_cons, List.drop_zero, List.take_succ_cons, List.take_zero] at h0 h1 h2 h3 h4 h5
  obtain ⟨z0, e0, _, _⟩ := DataW.trod_int Tryd.underlying3 h0
  obtain ⟨z1, e1, _, _⟩ := DataW.trod_int Tryd.underlying3 h1
  obtain ⟨z2, e2, _, _⟩ := DataW.trod_int Tryd.underlying3 h2
  obtain ⟨z3, e3, _, _⟩ := DataW.trod_int Tryd.underlying3 h3
  obtain ⟨z4, e4, _, w4⟩ := DataW.trod_int Tryd.underlying24 h4
  obtain ⟨z5, e5, _⟩ := DataW.trod_bool Tryd.underlying4 h5
  simp only [List.cons.injEq, and_true] at e0 e1 e2 e3 e4 e5
  subst e0 e1 e2 e3 e4 e5
  refine ⟨⟨⟨z0, z1, z2, z3, z4, z5⟩, rfl, wf_u16 w4⟩, ?_⟩
  have := bulk_len (xs.map (·.1))
  simp only [Rows.uptoBulk, List.length_map] at this ⊢
  omega
theorem cells_at {a : Addr} {n : Nat} {cs : List Value} (h : w.cells? base a n = some cs) (i : Nat) (u : Value) (hu : cs[i]? = some u) : w.cell? (a.add i) = some u := by
  unfold World.cells? at h
  split at h
  · have hl := mapM_some_length h
    have hi : i < n := by
      have := (List.getElem?_eq_some_iff.1 hu).1
      simp at hl; omega
    have := mapM_some_get h i i (by simp [hi])
    rw [this]; exact hu
  · cases h
theorem open_keys {fuel : Nat} {cs : List Value} {x : DataW H × List MemPlace} (h : DataW.trod enc Tryd.prog w base spare held fuel 22 cs = some x) :
    ∃ (A : Option Addr) (c : Nat) (l : List Ky), cs = [.slice A l.length c] ∧ l.length ≤ c ∧ Kd.C k33 w A l.length l ∧ (∀ k ∈ l, KeyOk k) ∧ 2 * l.length ≤ Rows.uptoBulk x.1 := by
  have q33 : Tryd.prog.cellsOf 33 = 6 := by kernel_rfl
  rcases DataW.trod_slice Tryd.underlying22 h with ⟨rfl, rfl⟩ | ⟨a, len, cap, elems, rest, n, _, rfl, rfl, _, hlc, hcm, hlen, hel, _, _⟩
  · exact ⟨none, 0, [], rfl, Nat.le_refl _, ⟨rfl, by decide, fun h => absurd h (by decide)⟩, fun k hk => (by cases hk), Nat.zero_le _⟩
  · have hex : ∀ i, i < len → ∃ k : Ky, (∀ j u, (keyCells k)[j]? = some u → w.cell? (a.add (i * 6 + j)) = some u) ∧ KeyOk k := fun i hi => by
      have he := hel i hi
      rw [List.getElem?_eq_getElem (by omega), Option.bind_eq_some_iff, q33] at he
      obtain ⟨cs', hc, ht⟩ := he
      obtain ⟨⟨k, rfl, hk⟩, _⟩ := open_key ht
      exact ⟨k, fun j u hu => by have := cells_at hc j u hu; rwa [Addr.add_add] at this, hk⟩
    obtain ⟨l, hl, hp⟩ := exists_list _ len hex
    subst hl
    refine ⟨some a, cap, l, rfl, hlc, ⟨rfl, ?_, fun _ => ⟨a, rfl, fun j p hj => ⟨keyCells p, rfl, k33_mk _ _, (hp j p hj).1⟩⟩⟩, fun k hk => ?_, ?_⟩
    · have : maxLen ≤ 9223372036854775807 := by decide
      omega
    · obtain ⟨j, hj⟩ := List.getElem?_of_mem hk
      exact (hp j k hj).2
    · have := bulk_len2 (elems.map (·.1)) (fun d hd => by
        obtain ⟨e, he, rfl⟩ := List.mem_map.1 hd
        obtain ⟨i, hi⟩ := List.getElem?_of_mem he
        have he := hel i (by have := (List.getElem?_eq_some_iff.1 hi).1; omega)
        rw [hi, Option.bind_eq_some_iff, q33] at he
        obtain ⟨cs', hc, ht⟩ := he
        exact (open_key ht).2)
      simp only [Rows.uptoBulk, List.length_map] at this ⊢
      omega
theorem eighteen {cs : List Value} (h : cs.length = 18) : ∃ c0 c1 c2 c3 c4 c5 c6 c7 c8 c9 c10 c11 c12 c13 c14 c15 c16 c17, cs = [c0, c1, c2, c3, c4, c5, c6, c7, c8, c9, c10, c11, c12, c13, c14, c15, c16, c17] := by
  match cs, h with
  | [c0, c1, c2, c3, c4, c5, c6, c7, c8, c9, c10, c11, c12, c13, c14, c15, c16, c17], _ => exact ⟨c0, c1, c2, c3, c4, c5, c6, c7, c8, c9, c10, c11, c12, c13, c14, c15, c16, c17, rfl⟩
theorem one_of_slice {t e : TypeId} (ht : Tryd.prog.underlying t = some (.slice e)) {fuel : Nat} {c : Value} {x : DataW H × List MemPlace} (h : DataW.trod enc Tryd.prog w base spare held fuel t [c] = some x) : c.oneCell' = true := by
  rcases DataW.trod_slice ht h with ⟨e, _⟩ | ⟨a, len, cap, elems, rest, n, _, e, _⟩
  · simp only [List.cons.injEq, and_true] at e; subst e; rfl
  · simp only [List.cons.injEq, and_true] at e; subst e; rfl
set_option maxRecDepth 100000 in
theorem open_opts {b0 : Nat} {v : Value} {d : DataW H} {ps : List MemPlace} (hval : Value.okWide Tryd.prog w .any b0 28 v) (hd : DataW.Trod enc Tryd.prog w base spare held 28 v d ps) :
    ∃ (A0 : Option Addr) (c0 : Nat) (l0 : List Ky) (mn : Nat) (t : Int) (st un : Bool) (r : Rest), v = .agg (optVal (.slice A0 l0.length c0) (mn : Int) t st un r) ∧ r.r17.oneCell' = true ∧ mn < 65536 ∧ l0.length ≤ c0 ∧ Kd.C k33 w A0 l0.length l0 ∧ (∀ k ∈ l0, KeyOk k) ∧ 2 * l0.length ≤ Rows.uptoBulk d ∧ (Lit.int .i64 t).wf = true := by
  obtain ⟨csA, rfl, hsz⟩ := okWide_struct Tryd.underlying28 hval
  obtain ⟨fuel, h⟩ := hd
  obtain ⟨xs, n, rfl, hxx, hl, hx, hf⟩ := DataW.trod_struct Tryd.underlying28 h
  have q28 : Tryd.prog.cellsOf 28 = 18 := by kernel_rfl
  have q3 : Tryd.prog.cellsOf 3 = 1 := by kernel_rfl
  have q24 : Tryd.prog.cellsOf 24 = 1 := by kernel_rfl
  have q4 : Tryd.prog.cellsOf 4 = 1 := by kernel_rfl
  have q22 : Tryd.prog.cellsOf 22 = 1 := by kernel_rfl
  have q25 : Tryd.prog.cellsOf 25 = 1 := by kernel_rfl
  have q9 : Tryd.prog.cellsOf 9 = 1 := by kernel_rfl
  have q26 : Tryd.prog.cellsOf 26 = 1 := by kernel_rfl
  rw [q28] at hl
  change csA.toList.length = 18 at hl
  change ∀ (i : Nat) (f : Field), _ → DataW.trod enc Tryd.prog w base spare held n f.type ((csA.toList.drop f.offset).take (Tryd.prog.cellsOf f.type)) = xs[i]? at hf
  obtain ⟨c0, c1, c2, c3, c4, c5, c6, c7, c8, c9, c10, c11, c12, c13, c14, c15, c16, c17, hcs⟩ := eighteen hl
  have h0 : DataW.trod enc Tryd.prog w base spare held n 22 ((csA.toList.drop 0).take (Tryd.prog.cellsOf 22)) = xs[0]? := hf 0 _ rfl
  have h1 : DataW.trod enc Tryd.prog w base spare held n 24 ((csA.toList.drop 1).take (Tryd.prog.cellsOf 24)) = xs[1]? := hf 1 _ rfl
  have h2 : DataW.trod enc Tryd.prog w base spare held n 3 ((csA.toList.drop 2).take (Tryd.prog.cellsOf 3)) = xs[2]? := hf 2 _ rfl
  have h3 : DataW.trod enc Tryd.prog w base spare held n 4 ((csA.toList.drop 3).take (Tryd.prog.cellsOf 4)) = xs[3]? := hf 3 _ rfl
  have h4 : DataW.trod enc Tryd.prog w base spare held n 4 ((csA.toList.drop 4).take (Tryd.prog.cellsOf 4)) = xs[4]? := hf 4 _ rfl
  have h5 : DataW.trod enc Tryd.prog w base spare held n 4 ((csA.toList.drop 5).take (Tryd.prog.cellsOf 4)) = xs[5]? := hf 5 _ rfl
  have h6 : DataW.trod enc Tryd.prog w base spare held n 4 ((csA.toList.drop 6).take (Tryd.prog.cellsOf 4)) = xs[6]? := hf 6 _ rfl
  have h7 : DataW.trod enc Tryd.prog w base spare held n 25 ((csA.toList.drop 7).take (Tryd.prog.cellsOf 25)) = xs[7]? := hf 7 _ rfl
  have h8 : DataW.trod enc Tryd.prog w base spare held n 9 ((csA.toList.drop 8).take (Tryd.prog.cellsOf 9)) = xs[8]? := hf 8 _ rfl
  have h9 : DataW.trod enc Tryd.prog w base spare held n 4 ((csA.toList.drop 9).take (Tryd.prog.cellsOf 4)) = xs[9]? := hf 9 _ rfl
  have h10 : DataW.trod enc Tryd.prog w base spare held n 3 ((csA.toList.drop 10).take (Tryd.prog.cellsOf 3)) = xs[10]? := hf 10 _ rfl
  have h11 : DataW.trod enc Tryd.prog w base spare held n 3 ((csA.toList.drop 11).take (Tryd.prog.cellsOf 3)) = xs[11]? := hf 11 _ rfl
  have h12 : DataW.trod enc Tryd.prog w base spare held n 3 ((csA.toList.drop 12).take (Tryd.prog.cellsOf 3)) = xs[12]? := hf 12 _ rfl
  have h13 : DataW.trod enc Tryd.prog w base spare held n 3 ((csA.toList.drop 13).take (Tryd.prog.cellsOf 3)) = xs[13]? := hf 13 _ rfl
  have h14 : DataW.trod enc Tryd.prog w base spare held n 9 ((csA.toList.drop 14).take (Tryd.prog.cellsOf 9)) = xs[14]? := hf 14 _ rfl
  have h15 : DataW.trod enc Tryd.prog w base spare held n 4 ((csA.toList.drop 15).take (Tryd.prog.cellsOf 4)) = xs[15]? := hf 15 _ rfl
  have h16 : DataW.trod enc Tryd.prog w base spare held n 9 ((csA.toList.drop 16).take (Tryd.prog.cellsOf 9)) = xs[16]? := hf 16 _ rfl
  have h17 : DataW.trod enc Tryd.prog w base spare held n 26 ((csA.toList.drop 17).take (Tryd.prog.cellsOf 26)) = xs[17]? := hf 17 _ rfl
  clear hf
  have hx : xs.length = 18 := hx
  rw [hcs] at h0 h1 h2 h3 h4 h5 h6 h7 h8 h9 h10 h11 h12 h13 h14 h15 h16 h17
  rw [List.getElem?_eq_getElem (by omega)] at h0 h1 h2 h3 h4 h5 h6 h7 h8 h9 h10 h11 h12 h13 h14 h15 h16 h17
  simp only [q3, q24, q4, q22, q25, q9, q26, List.drop_succ_cons, List.drop_zero, List.take_succ_cons, List.take_zero] at h0 h1 h2 h3 h4 h5 h6 h7 h8 h9 h10 h11 h12 h13 h14 h15 h16 h17
  obtain ⟨A0, cap, l0, e0, g1, g2, g3, g4⟩ := open_keys h0
  obtain ⟨z1, e1, _, w1⟩ := DataW.trod_int Tryd.underlying24 h1
  obtain ⟨z2, e2, _, w2⟩ := DataW.trod_int Tryd.underlying3 h2
  obtain ⟨z3, e3, _⟩ := DataW.trod_bool Tryd.underlying4 h3
  obtain ⟨z4, e4, _⟩ := DataW.trod_bool Tryd.underlying4 h4
  obtain ⟨z5, e5, _⟩ := DataW.trod_bool Tryd.underlying4 h5
  obtain ⟨z6, e6, _⟩ := DataW.trod_bool Tryd.underlying4 h6
  obtain ⟨z7, e7, _, _⟩ := DataW.trod_int Tryd.underlying25 h7
  obtain ⟨z8, e8, _, _⟩ := DataW.trod_string Tryd.underlying9 h8
  obtain ⟨z9, e9, _⟩ := DataW.trod_bool Tryd.underlying4 h9
  obtain ⟨z10, e10, _, _⟩ := DataW.trod_int Tryd.underlying3 h10
  obtain ⟨z11, e11, _, _⟩ := DataW.trod_int Tryd.underlying3 h11
  obtain ⟨z12, e12, _, _⟩ := DataW.trod_int Tryd.underlying3 h12
  obtain ⟨z13, e13, _, _⟩ := DataW.trod_int Tryd.underlying3 h13
  obtain ⟨z14, e14, _, _⟩ := DataW.trod_string Tryd.underlying9 h14
  obtain ⟨z15, e15, _⟩ := DataW.trod_bool Tryd.underlying4 h15
  obtain ⟨z16, e16, _, _⟩ := DataW.trod_string Tryd.underlying9 h16
  have o17 := one_of_slice Tryd.underlying26 h17
  simp only [List.cons.injEq, and_true] at e0 e1 e2 e3 e4 e5 e6 e7 e8 e9 e10 e11 e12 e13 e14 e15 e16
  obtain ⟨mn, rfl, hmn⟩ := wf_u16 w1
  refine ⟨A0, cap, l0, mn, z2, z3, z4, ⟨z5, z6, z7, z8, z9, z10, z11, z12, z13, z14, z15, z16, c17⟩, ?_, o17, hmn, g1, g2, g3, ?_, w2⟩
  · congr 1
    apply Array.toList_inj.1
    rw [hcs, e0, e1, e2, e3, e4, e5, e6, e7, e8, e9, e10, e11, e12, e13, e14, e15, e16]
    rfl
  · have e := congrArg Prod.fst hxx
    simp only at e
    rw [e]
    have hm : xs[0].1 ∈ xs.map (·.1) := List.mem_map.2 ⟨_, List.getElem_mem _, rfl⟩
    have := bulk_part hm
    simp only [Rows.uptoBulk]
    omega
end
end Go.Proofs.YtnnoegjgaelafaaDoor.Pr
