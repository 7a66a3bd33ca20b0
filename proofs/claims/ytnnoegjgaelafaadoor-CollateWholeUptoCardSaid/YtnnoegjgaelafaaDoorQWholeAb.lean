/- The plain functions that this seat's contracts speak of: classes of bytes, blanks skipped, fields; and what is true of them. No program stands in this text. DERIVED: THE SHELF's CONTRACTS AT THIS DUMP, IN PLAIN WORDS (tools/lay-plain.mjs out of 'TrydShelf.lean', which tools/lay-shelf.mjs wrote): THE SAME DECLARATIONS UNDER THE SAME NAMES: 'import', 'namespace', 'open', 'def', 'theorem' AND NOTHING ELSE: no command of the shelf's: FOR A HAND-IN. Each laying: the table of numbers ('.._ren') and one theorem, a field a fact of the dump's own or the kernel's comparison; each contract: ONE APPLICATION. What the functions classes, skip, IndexByte of the program and of Go's library answer: contracts proved by hand, in the form that the printed texts of this seat use. Written by a program of this session (a turned copy of the kit's printer): the functions that a law reaches, as Lean functions, and their contracts. Contracts of Go's library at this seat, laid by the kit's tool: those that the first text (Shelf) lacks. For numeral's Compare: what of Go's library the printer does not tell: TrimLeft, TrimRight, Compare of ints. By hand. A scope with several labels: what holds at each jump, over a measure. For numeral's Compare: the program's tables of ranks and months in memory; rank. By hand. -/
import Derived.Lib.IndexLaws
import Derived.Test.YtnnoegjgaelafaaDoorQWholeAa
import Derived.Shelf.Small.Utf8
import Derived.Shelf.Small.Strs
import Derived.Shelf.Strings.Search1
import Derived.Shelf.Strings.Runes
import Derived.Shelf.Strings.AsciiSet
import Derived.Shelf.Unicode.DecodeSlow
import Derived.Test.YtnnoegjgaelafaaDoorProg
import Derived.WalkKit
import Derived.KernelRfl
import Derived.Below
import Derived.Outline
import Derived.Great.BuildSlice
import Derived.Deep.RegionHeld3
import Derived.LoopTactic
import Derived.Deep.DeepCutAuto
import Derived.Deep.LoopGhost
import Derived.Deep.QuietTactic
import Derived.BigQuiet
import Derived.Deep.Draws
import Derived.Deep.AppendLies
import Derived.Maps.AppendAt
import Derived.OwnWalk
import Derived.Laws.BytesArg
import Derived.Laws.MakeOwn
import Derived.Laws.OwnMore
import Derived.Deep.OwnRows
import Derived.Tactics
import Derived.Lib.ConvBytes
import Derived.Laws.Slices
import Derived.RowKit3
import Derived.WideLaws
import Derived.Deep.CutBlock
import Derived.Laws.Rows
import Derived.Lib.AppendStr
import Derived.ArgAppend
import Derived.Laws.IdiomCopy
import Derived.OrdersHeld
import Derived.Laws.BitsLemmas
import Derived.RowKit
import Derived.Test.YtnnoegjgaelafaaDoorQWholeAc
import Derived.Test.YtnnoegjgaelafaaDoorQWholeAd
import Derived.Shelf.Strings.Builder1
import Derived.Shelf.Strings.Trim
import Derived.Shelf.Small.Wraps
import Derived.Shelf.Strings.BuilderF
import Derived.Shelf.Strings.BuilderK
import Derived.Shelf.LaysM
import Derived.Shelf.Strconv.Clone
import Derived.Shelf.Unicode.Decode
import Derived.Shelf.Unicode.DecodeAny
import Derived.Shelf.Unicode.DecodeLast
import Derived.Shelf.Strings.BuilderCap
import Derived.Ground.Names2Prog
import Derived.Shelf.Slices.SearchI
import Derived.Lib.TrimByte
import Derived.ScopeJumps
namespace Go.Proofs.YtnnoegjgaelafaaDoor
open Go.RowKit Go.Proofs.YtnnoegjgaelafaaDoorW.PrintWords
set_option linter.unusedVariables false

/-- What a byte is: blank 1, letter or digit 2, printed 4. -/
def cls (c : Int) : Int := if c = 9 then 1 else if c = 32 then 5 else if (48 ≤ c ∧ c ≤ 57) ∨ (65 ≤ c ∧ c ≤ 90) ∨ (97 ≤ c ∧ c ≤ 122) then 6 else if 33 ≤ c ∧ c ≤ 126 then 4 else 0
def clsCells : Array Value := ((List.range 256).map fun (i : Nat) => Value.int .u8 (cls (i : Int))).toArray

def blank (c : Int) : Bool := c == 9 || c == 32
/-- The place behind all bytes of this sort from i on. -/
def skipTo (s : ByteArray) (b : Bool) (i : Nat) : Nat := if h : i < s.size then if blank ((s[i].toNat : Nat) : Int) == b then skipTo s b (i + 1) else i else i
termination_by s.size - i

theorem cls_blank (c : Int) (h : blank c = true) : cls c = 1 ∨ cls c = 5 := by
  unfold blank at h; simp at h
  rcases h with rfl | rfl
  · left; decide
  · right; decide
theorem cls_not (c : Int) (h : blank c = false) : cls c = 0 ∨ cls c = 4 ∨ cls c = 6 := by
  unfold blank at h; simp at h
  unfold cls
  rw [if_neg h.1, if_neg h.2]
  split
  · right; right; rfl
  · split
    · right; left; rfl
    · left; rfl
theorem skipTo_step (s : ByteArray) (b : Bool) (k : Nat) (h : k < s.size) : skipTo s b k = if blank ((s[k].toNat : Nat) : Int) == b then skipTo s b (k + 1) else k := by
  rw [skipTo, dif_pos h]
theorem skipTo_end (s : ByteArray) (b : Bool) (k : Nat) (h : ¬ k < s.size) : skipTo s b k = k := by
  rw [skipTo, dif_neg h]

theorem bt_nat (s : ByteArray) (k : Nat) (h : k < s.size) : bt s (k : Int) = ((s[k].toNat : Nat) : Int) := (bt_at s (k : Int) h).symm
def isB (s : ByteArray) (k : Nat) : Bool := blank (bt s (k : Int))
theorem isB_at (s : ByteArray) (k : Nat) (h : k < s.size) : blank ((s[k].toNat : Nat) : Int) = isB s k := by rw [isB, bt_nat s k h]
theorem skipTo_go (s : ByteArray) (b : Bool) (k : Nat) (h : k < s.size) (hb : isB s k = b) : skipTo s b k = skipTo s b (k + 1) := by
  rw [skipTo_step s b k h, isB_at s k h, hb, if_pos (by simp)]
theorem skipTo_stop (s : ByteArray) (b : Bool) (k : Nat) (h : k < s.size) (hb : isB s k ≠ b) : skipTo s b k = k := by
  rw [skipTo_step s b k h, isB_at s k h, if_neg (by simpa using hb)]
theorem skip_facts (s : ByteArray) (b : Bool) : ∀ (n i : Nat), s.size - i = n → i ≤ s.size → i ≤ skipTo s b i ∧ skipTo s b i ≤ s.size ∧ (∀ j, i ≤ j → j < skipTo s b i → isB s j = b) ∧ (skipTo s b i < s.size → isB s (skipTo s b i) ≠ b) := by
  intro n
  induction n with
  | zero =>
    intro i hn hi
    rw [skipTo_end s b i (by omega)]
    exact ⟨Nat.le_refl _, hi, fun j h1 h2 => by omega, fun h => by omega⟩
  | succ n ih =>
    intro i hn hi
    have hlt : i < s.size := by omega
    by_cases hb : isB s i = b
    · rw [skipTo_go s b i hlt hb]
      obtain ⟨h1, h2, h3, h4⟩ := ih (i + 1) (by omega) (by omega)
      refine ⟨by omega, h2, fun j hj hj2 => ?_, h4⟩
      by_cases e : j = i
      · rw [e]; exact hb
      · exact h3 j (by omega) hj2
    · rw [skipTo_stop s b i hlt hb]
      exact ⟨Nat.le_refl _, hi, fun j h1 h2 => by omega, fun _ => hb⟩
theorem skip_ge (s : ByteArray) (b : Bool) (i : Nat) (hi : i ≤ s.size) : i ≤ skipTo s b i := (skip_facts s b _ i rfl hi).1
theorem skip_le (s : ByteArray) (b : Bool) (i : Nat) (hi : i ≤ s.size) : skipTo s b i ≤ s.size := (skip_facts s b _ i rfl hi).2.1
/-- The first place from i on that holds this byte; else the end. -/
def tabTo (s : ByteArray) (t : Int) (i : Nat) : Nat := if h : i < s.size then if bt s (i : Int) = t then i else tabTo s t (i + 1) else s.size
termination_by s.size - i
theorem tabTo_hit (s : ByteArray) (t : Int) (i : Nat) (h : i < s.size) (e : bt s (i : Int) = t) : tabTo s t i = i := by rw [tabTo, dif_pos h, if_pos e]
theorem tabTo_go (s : ByteArray) (t : Int) (i : Nat) (h : i < s.size) (e : bt s (i : Int) ≠ t) : tabTo s t i = tabTo s t (i + 1) := by rw [tabTo, dif_pos h, if_neg e]
theorem tabTo_end (s : ByteArray) (t : Int) (i : Nat) (h : ¬ i < s.size) : tabTo s t i = s.size := by rw [tabTo, dif_neg h]
theorem tab_facts (s : ByteArray) (t : Int) : ∀ (n i : Nat), s.size - i = n → i ≤ s.size → i ≤ tabTo s t i ∧ tabTo s t i ≤ s.size ∧ (∀ j : Nat, i ≤ j → j < tabTo s t i → bt s (j : Int) ≠ t) ∧ (tabTo s t i < s.size → bt s ((tabTo s t i : Nat) : Int) = t) := by
  intro n
  induction n with
  | zero =>
    intro i hn hi
    rw [tabTo_end s t i (by omega)]
    exact ⟨hi, Nat.le_refl _, fun j h1 h2 => by omega, fun h => by omega⟩
  | succ n ih =>
    intro i hn hi
    have hlt : i < s.size := by omega
    by_cases hb : bt s (i : Int) = t
    · rw [tabTo_hit s t i hlt hb]
      exact ⟨Nat.le_refl _, hi, fun j h1 h2 => by omega, fun _ => hb⟩
    · rw [tabTo_go s t i hlt hb]
      obtain ⟨h1, h2, h3, h4⟩ := ih (i + 1) (by omega) (by omega)
      refine ⟨by omega, h2, fun j hj hj2 => ?_, h4⟩
      by_cases e : j = i
      · rw [e]; exact hb
      · exact h3 j (by omega) hj2
theorem tab_ge (s : ByteArray) (t : Int) (i : Nat) (hi : i ≤ s.size) : i ≤ tabTo s t i := (tab_facts s t _ i rfl hi).1
theorem tab_le (s : ByteArray) (t : Int) (i : Nat) (hi : i ≤ s.size) : tabTo s t i ≤ s.size := (tab_facts s t _ i rfl hi).2.1
/-- What the library's IndexByte answers of the rest of a string. -/
theorem index_tab (s : ByteArray) (t : Int) (h0 : 0 ≤ t) (h1 : t ≤ 255) (i : Nat) (hi : i ≤ s.size) :
    Lib.indexByte (s.extract i s.size).data.toList (t % 256).toNat.toUInt8 = if tabTo s t i < s.size then ((tabTo s t i : Nat) : Int) - i else -1 := by
  have hc : ((t % 256).toNat.toUInt8).toNat = t.toNat := by
    rw [Nat.toUInt8, UInt8.toNat_ofNat']
    omega
  have hget : ∀ k : Nat, (s.extract i s.size).data.toList[k]? = if h : i + k < s.size then some s[i + k] else none := by
    intro k
    rw [ByteArray.data_extract, Array.toList_extract, List.extract_eq_take_drop, List.getElem?_take, List.getElem?_drop]
    by_cases h : i + k < s.size
    · rw [dif_pos h, if_pos (by omega)]
      show s.data.toList[i + k]? = _
      rw [Array.getElem?_toList]
      exact Array.getElem?_eq_getElem h
    · rw [dif_neg h]
      split
      · exact List.getElem?_eq_none (by show s.data.toList.length ≤ _; rw [Array.length_toList]; show s.size ≤ _; omega)
      · rfl
  have hval : ∀ (k : Nat) (h : i + k < s.size), (s[i + k] = (t % 256).toNat.toUInt8) ↔ bt s ((i + k : Nat) : Int) = t := by
    intro k h
    rw [bt_nat s (i + k) h, ← UInt8.toNat_inj, hc]
    omega
  obtain ⟨f1, f2, f3, f4⟩ := tab_facts s t _ i rfl hi
  have hge := Lib.indexByte_ge (s.extract i s.size).data.toList (t % 256).toNat.toUInt8
  by_cases hm : Lib.indexByte (s.extract i s.size).data.toList (t % 256).toNat.toUInt8 = -1
  · have hn := Lib.indexByte_none hm
    rw [hm, if_neg]
    intro hlt
    have := hn (tabTo s t i - i)
    rw [hget, dif_pos (by omega)] at this
    apply this
    congr 1
    rw [(hval (tabTo s t i - i) (by omega))]
    rw [show i + (tabTo s t i - i) = tabTo s t i from by omega]
    exact f4 hlt
  · obtain ⟨o, ho⟩ : ∃ o : Nat, Lib.indexByte (s.extract i s.size).data.toList (t % 256).toNat.toUInt8 = (o : Int) := ⟨(Lib.indexByte (s.extract i s.size).data.toList (t % 256).toNat.toUInt8).toNat, by omega⟩
    obtain ⟨h2, h3⟩ := Lib.indexByte_some ho
    rw [hget] at h2
    by_cases hlt : i + o < s.size
    · rw [dif_pos hlt] at h2
      have hb := (hval o hlt).1 (Option.some.inj h2)
      have hle : tabTo s t i ≤ i + o := by
        apply Nat.le_of_not_lt
        intro hh
        exact f3 (i + o) (by omega) hh hb
      have hnl : ¬ tabTo s t i < i + o := by
        intro hh
        have h5 := h3 (tabTo s t i - i) (by omega)
        rw [hget, dif_pos (by omega)] at h5
        apply h5
        congr 1
        rw [(hval (tabTo s t i - i) (by omega))]
        rw [show i + (tabTo s t i - i) = tabTo s t i from by omega]
        exact f4 (by omega)
      rw [ho, if_pos (by omega)]
      omega
    · rw [dif_neg hlt] at h2
      cases h2

def behindN (s : ByteArray) (t : Int) (i : Nat) : Nat := if t < 0 then skipTo s false (skipTo s true i) else tabTo s t i
theorem behind_ge (s : ByteArray) (t : Int) (i : Nat) (hi : i ≤ s.size) : i ≤ behindN s t i := by
  unfold behindN; split
  · have h1 := skip_ge s true i hi
    have h2 := skip_le s true i hi
    have h3 := skip_ge s false _ h2
    omega
  · exact tab_ge s t i hi
theorem behind_le (s : ByteArray) (t : Int) (i : Nat) (hi : i ≤ s.size) : behindN s t i ≤ s.size := by
  unfold behindN; split
  · exact skip_le s false _ (skip_le s true i hi)
  · exact tab_le s t i hi
/-- Without a separator a field is not empty. -/
theorem behind_gt (s : ByteArray) (t : Int) (ht : t < 0) (i : Nat) (hi : i < s.size) : i < behindN s t i := by
  unfold behindN; rw [if_pos ht]
  have h1 := skip_ge s true i (by omega)
  have h2 := skip_le s true i (by omega)
  have h3 := skip_ge s false _ h2
  by_cases hb : isB s i = true
  · have := skipTo_go s true i hi hb
    have h5 := skip_ge s true (i + 1) (by omega)
    omega
  · have e := skipTo_stop s true i hi hb
    rw [e] at h3 ⊢
    have := skipTo_go s false i hi (by simpa using hb)
    have h5 := skip_ge s false (i + 1) (by omega)
    omega
def nextN (t : Int) (e : Nat) : Nat := if t < 0 then e else e + 1
/-- The fields from the one on that begins at i: (from, to). -/
def fieldsFrom (s : ByteArray) (t : Int) (i : Nat) : List (Nat × Nat) :=
  if h : i < nextN t (behindN s t i) ∧ behindN s t i < s.size then (i, behindN s t i) :: fieldsFrom s t (nextN t (behindN s t i)) else [(i, s.size)]
termination_by s.size + 1 - i
decreasing_by
  have := h.1; have := h.2
  unfold nextN at *
  split at * <;> omega
theorem fields_last (s : ByteArray) (t : Int) (i : Nat) (h : behindN s t i = s.size) : fieldsFrom s t i = [(i, s.size)] := by
  rw [fieldsFrom, dif_neg (by omega)]
theorem fields_more (s : ByteArray) (t : Int) (i : Nat) (hi : i ≤ s.size) (h : behindN s t i ≠ s.size) : fieldsFrom s t i = (i, behindN s t i) :: fieldsFrom s t (nextN t (behindN s t i)) := by
  have h2 := behind_le s t i hi
  have h1 := behind_ge s t i hi
  rw [fieldsFrom, dif_pos]
  refine ⟨?_, by omega⟩
  unfold nextN
  split
  · exact behind_gt s t ‹_› i (by omega)
  · omega
def fieldsL (s : ByteArray) (t : Int) : List (Nat × Nat) := if t < -1 ∨ 255 < t ∨ t = -1 ∧ s.size = 0 then [] else fieldsFrom s t 0
end Go.Proofs.YtnnoegjgaelafaaDoor
namespace Go.Proofs
open Go.Shelf
def Tryd.lays106_ren : Go.Shelf.Ren := ⟨fun | 106 => 41 | 213 => 64 | 265 => 79 | n => n, fun | 9 => 9 | 3 => 3 | n => n, fun | n => n⟩
theorem Tryd.lays106 : Go.Proofs.Lays.n106 Tryd.prog Tryd.lays106_ren := {
  mixed := by kernel_rfl
  f106 := Tryd.func41.trans (congrArg some (by kernel_rfl))
  f213 := Tryd.func64.trans (congrArg some (by kernel_rfl))
  f265 := Tryd.func79.trans (congrArg some (by kernel_rfl))
  t3 := Tryd.underlying3
  a3 := Tryd.isAgg3
  z3 := Tryd.sizeOf3
  v3 := Tryd.zeroValue3
  t9 := Tryd.underlying9
  a9 := Tryd.isAgg9
  z9 := Tryd.sizeOf9
  v9 := Tryd.zeroValue9 }
open Go.RowKit in
/-- strings.Compare: "Compare returns an integer comparing two strings lexicographically. The result will be 0 if a == b, -1 if a < b, and +1 if a > b.": IT RETURNS 'Lib.compareBytes a b'; the world is as it was. (LAID: no walk: one application.) -/
theorem Tryd.strings_Compare (a b : ByteArray) (w : World) :
    Calls Tryd.prog 41 #[.string a, .string b] w fun e w' => e = .returned (.int .i64 (Lib.compareBytes a.data.toList b.data.toList)) ∧ w' = w := Any.strings_Compare Tryd.lays106 a b w
def Tryd.lays137_ren : Go.Shelf.Ren := ⟨fun | 137 => 78 | 217 => 99 | 266 => 109 | n => n, fun | 9 => 9 | 5 => 5 | 3 => 3 | n => n, fun | n => n⟩
theorem Tryd.lays137 : Go.Proofs.Lays.n137 Tryd.prog Tryd.lays137_ren := {
  mixed := by kernel_rfl
  f137 := Tryd.func78.trans (congrArg some (by kernel_rfl))
  f217 := Tryd.func99.trans (congrArg some (by kernel_rfl))
  f266 := Tryd.func109.trans (congrArg some (by kernel_rfl))
  t3 := Tryd.underlying3
  a3 := Tryd.isAgg3
  z3 := Tryd.sizeOf3
  v3 := Tryd.zeroValue3
  t5 := Tryd.underlying5
  a5 := Tryd.isAgg5
  z5 := Tryd.sizeOf5
  v5 := Tryd.zeroValue5
  t9 := Tryd.underlying9
  a9 := Tryd.isAgg9
  z9 := Tryd.sizeOf9
  v9 := Tryd.zeroValue9 }
open Go.RowKit in
/-- strings.IndexByte: "IndexByte returns the index of the first instance of c in s, or -1 if c is not present in s.": IT RETURNS 'Lib.indexByte s c'; the world is as it was. (LAID: no walk: one application.) -/
theorem Tryd.strings_IndexByte (s : ByteArray) (c : Int) (w : World) :
    Calls Tryd.prog 78 #[.string s, .int .u8 c] w fun e w' => e = .returned (.int .i64 (Lib.indexByte s.data.toList c.toNat.toUInt8)) ∧ w' = w := Any.strings_IndexByte Tryd.lays137 s c w
end Go.Proofs
namespace Go.Proofs.YtnnoegjgaelafaaDoor
open Go.RowKit Go.Great Go.Proofs.YtnnoegjgaelafaaDoorW.PrintWords

theorem below_setRow {B : Nat} {a w : World} (h : Below B a w) (g : Nat) (hg : B ≤ g) (cs : Array Value) : Below B a (w.setRow g cs) :=
  h.trans ⟨rfl, rfl, rfl, by simp, fun k hk => setRow_other w g k cs (by omega)⟩
attribute [local irreducible] wpList Code.wp clsCells
set_option maxRecDepth 100000 in
set_option maxHeartbeats 4000000 in
theorem classes_calls (w : World) :
    Calls Tryd.prog 63 #[] w fun e w' => e = .returned (.agg clsCells) ∧ Below w.heap.size w w' := by
  go_enter Tryd.func63, Tryd.ntmps63
  go_wp2_with (first
    | (refine wpList_buildTo rfl 99 _ rfl (some 1) rfl clsCells (by as_aux_lemma => kernel_rfl) ?_)
    | (refine wpList_store_rowTo rfl 99 _ _ rfl rfl w.heap.size clsCells rfl rfl 99 Tryd.zeroCells99 (heap_alloc_new _ _) (by as_aux_lemma => kernel_rfl) (by as_aux_lemma => kernel_rfl) (by as_aux_lemma => kernel_rfl) ?_))
  exact bodyPost_ret (v := .agg clsCells) (results_cell_row (p := 0) (ty := 99) rfl _ _ w.heap.size 99 clsCells (0, 0) _ rfl (setRow_heap _ _ _ _ _ _ (heap_alloc_new _ _)) Tryd.underlying99 rfl (by as_aux_lemma => kernel_rfl)) rfl ⟨rfl, below_setRow ((Below.refl _ _).alloc (Nat.le_refl _) _) _ (Nat.le_refl _) _⟩

structure Aside (p : Prop) : Prop where mk :: (out : p)
theorem cls_and (c : Int) : ∃ v, cls c = v ∧ (bits BinOp.and IntKind.u8 v 1 != 0) = blank c := by
  refine ⟨_, rfl, ?_⟩
  cases h : blank c with
  | true => rcases cls_blank c h with e | e <;> rw [e] <;> decide
  | false => rcases cls_not c h with e | e | e <;> rw [e] <;> decide
theorem below_drewN {B : Nat} {w W : World} (h : Below B w W) (n : Nat) : Below B w (W.drewN n) := ⟨h.os, h.tape, h.output, h.size, h.block⟩
theorem below_step {a w w1 : World} (h : Below a.heap.size a w) (hb : Below w.heap.size w w1) : Below a.heap.size a w1 := h.trans (hb.mono h.size)
theorem info5 : (Tryd.prog.info? 5).map (·.size) = some 1 := by kernel_rfl
theorem run_cls (c : Nat) (hc : c < 256) (v : Int) (hv : cls (c : Int) = v) (W : World) : (Instr.index 99 (.agg clsCells) (.int .u8 (c : Int))).run Tryd.prog W = .ok (.int .u8 v) W := by
  subst hv
  have hi := info5
  cases hq : Tryd.prog.info? 5 with
  | none => rw [hq] at hi; simp at hi
  | some i =>
    rw [hq] at hi
    have hs : i.size = 1 := by simpa using hi
    have hpart : clsCells[c]? = some (.int .u8 (cls (c : Int))) := by
      unfold clsCells
      simp [hc]
    have hagg : ∀ W, (isAgg 5).run Tryd.prog W = .ok false W := fun W => by unfold isAgg; rw [Sem.run_bind, run_underlying Tryd.underlying5 W]; rfl
    have h255 : ((c : Int) < 256) := by omega
    simp [Instr.index, asIntOf, run_underlying Tryd.underlying99, sizeOf, typeInfo, hq, hs, part, hpart, hagg]
    intro h; omega

set_option maxHeartbeats 4000000 in
set_option maxRecDepth 100000 in
theorem skip_calls (s : ByteArray) (b : Bool) (i : Nat) (w : World) (hs : s.size ≤ 140737488351232) (hi : i ≤ s.size) :
    Calls Tryd.prog 59 #[.string s, .int .i64 i, .int .u8 1, .bool b] w fun e w' => e = .returned (.int .i64 (skipTo s b i)) ∧ Below w.heap.size w w' := by
  go_enter Tryd.func59, Tryd.ntmps59
  go_wp2
  go_loopw [1] (fun v w' => ∃ k : Nat, v = .int .i64 k ∧ k ≤ s.size ∧ Aside (skipTo s b i = skipTo s b k) ∧ Aside (Below w.heap.size w w')) (fun v _ => s.size - (intOf v).toNat)
  case atStart => exact ⟨i, rfl, hi, ⟨rfl⟩, ⟨Below.refl _ _⟩⟩
  case round =>
    obtain ⟨k, rfl, hk, HS, HB⟩ := hrel
    by_cases hlt : k < s.size
    · have hc : (s[k].toNat) < 256 := s[k].toNat_lt
      have hstep := skipTo_step s b k hlt
      have HLT := Aside.mk hlt
      have hd : decide (k < s.size) = true := decide_eq_true hlt
      obtain ⟨v, hv, hba⟩ := cls_and ((s[k].toNat : Nat) : Int)
      have hix := run_cls s[k].toNat hc v hv
      clear hv
      cases hbl : blank ((s[k].toNat : Nat) : Int) <;> cases b <;> rw [hbl] at hba hstep
      · have HN := Aside.mk (HS.out.trans (hstep.trans (if_pos (by decide))))
        clear HS hstep hbl
        go_wp2
        go_region_held3 (fun _ => True) (trivial) (first | (go_at_call 63; refine (classes_calls _).mono ?_; rintro e w' ⟨rfl, hb⟩))
        go_wp2
        all_goals exact ⟨⟨k + 1, by go_num, HLT.out, HN, ⟨below_step HB.out.drew hb⟩⟩, by simp [intOf]; omega⟩
      · have HN := Aside.mk (HS.out.trans (hstep.trans (if_neg (by decide))))
        clear HS hstep hbl
        go_wp2
        go_region_held3 (fun _ => True) (trivial) (first | (go_at_call 63; refine (classes_calls _).mono ?_; rintro e w' ⟨rfl, hb⟩))
        go_wp2
        all_goals (go_ret; exact ⟨by rw [HN.out]; rfl, below_step HB.out.drew hb⟩)
      · have HN := Aside.mk (HS.out.trans (hstep.trans (if_neg (by decide))))
        clear HS hstep hbl
        go_wp2
        go_region_held3 (fun _ => True) (trivial) (first | (go_at_call 63; refine (classes_calls _).mono ?_; rintro e w' ⟨rfl, hb⟩))
        go_wp2
        all_goals (go_ret; exact ⟨by rw [HN.out]; rfl, below_step HB.out.drew hb⟩)
      · have HN := Aside.mk (HS.out.trans (hstep.trans (if_pos (by decide))))
        clear HS hstep hbl
        go_wp2
        go_region_held3 (fun _ => True) (trivial) (first | (go_at_call 63; refine (classes_calls _).mono ?_; rintro e w' ⟨rfl, hb⟩))
        go_wp2
        all_goals exact ⟨⟨k + 1, by go_num, HLT.out, HN, ⟨below_step HB.out.drew hb⟩⟩, by simp [intOf]; omega⟩
    · have HS2 := Aside.mk (HS.out.trans (skipTo_end s b k hlt))
      have hd : decide (k < s.size) = false := decide_eq_false hlt
      clear HS
      go_wp2
      go_quiet (fail)
      go_wp2
      go_ret
      exact ⟨by rw [HS2.out]; rfl, below_drewN HB.out _⟩

def collate_skip.f (a0 : ByteArray) (a1 : Int) (a2 : Int) (a3 : Bool) : Option Int := if a0.size ≤ 140737488351232 ∧ 0 ≤ a1 ∧ a1 ≤ (a0.size : Int) ∧ a2 = 1 then some (skipTo a0 a3 a1.toNat : Nat) else none
theorem collate_skip.calls (a0 : ByteArray) (a1 : Int) (a2 : Int) (a3 : Bool) (r : Int) (w : World) (h : collate_skip.f a0 a1 a2 a3 = some r) :
    Calls Tryd.prog 59 #[.string a0, .int .i64 a1, .int .u8 a2, .bool a3] w fun e w' => e = .returned (.int .i64 r) ∧ Below w.heap.size w w' := by
  unfold collate_skip.f at h
  by_cases hc : a0.size ≤ 140737488351232 ∧ 0 ≤ a1 ∧ a1 ≤ (a0.size : Int) ∧ a2 = 1
  · rw [if_pos hc] at h
    obtain ⟨hs, h0, h1, rfl⟩ := hc
    obtain rfl := Option.some.inj h
    obtain ⟨n, rfl⟩ := Int.eq_ofNat_of_zero_le h0
    exact skip_calls a0 a3 n w hs (by omega)
  · rw [if_neg hc] at h
    exact absurd h (by simp)
def strings_IndexByte.f (a0 : ByteArray) (a1 : Int) : Option Int := some (Lib.indexByte a0.data.toList a1.toNat.toUInt8)
theorem strings_IndexByte.calls (a0 : ByteArray) (a1 : Int) (r : Int) (w : World) (h : strings_IndexByte.f a0 a1 = some r) :
    Calls Tryd.prog 78 #[.string a0, .int .u8 a1] w fun e w' => e = .returned (.int .i64 r) ∧ Drawn0 w w' := by
  obtain rfl := Option.some.inj h
  exact (Tryd.strings_IndexByte a0 a1 w).mono fun e w' ⟨he, hw⟩ => ⟨he, hw ▸ Drawn0.refl _⟩
def strings_Compare.f (a0 : ByteArray) (a1 : ByteArray) : Option Int := some (Lib.compareBytes a0.data.toList a1.data.toList)
theorem strings_Compare.calls (a0 : ByteArray) (a1 : ByteArray) (r : Int) (w : World) (h : strings_Compare.f a0 a1 = some r) :
    Calls Tryd.prog 41 #[.string a0, .string a1] w fun e w' => e = .returned (.int .i64 r) ∧ Drawn0 w w' := by
  obtain rfl := Option.some.inj h
  exact (Tryd.strings_Compare a0 a1 w).mono fun e w' ⟨he, hw⟩ => ⟨he, hw ▸ Drawn0.refl _⟩
end Go.Proofs.YtnnoegjgaelafaaDoor
namespace Go.Proofs.YtnnoegjgaelafaaDoor.Nu
open Go.RowKit Go.Proofs.YtnnoegjgaelafaaDoorW.PrintWords Go.Proofs.YtnnoegjgaelafaaDoorW.PrintLast Go.Proofs.YtnnoegjgaelafaaDoorW.PrintMore
attribute [local go_sem] max2_int min2_int max_two min_two max_three min_three max_four min_four   -- for this text's walks alone
set_option linter.unusedVariables false
set_option linter.unusedSimpArgs false

def errW : Option Int → Value
  | none => .nilIface
  | some c => .iface 0 (.int .i64 c)
theorem errW_none : errW none = .nilIface := rfl
theorem errW_some (c : Int) : errW (some c) = .iface 0 (.int .i64 c) := rfl

theorem info5 : (Tryd.prog.info? 5).map (fun i => (i.zero, i.size, i.bytes)) = some (some (.int .u8 0), 1, 1) := by kernel_rfl
structure S124 where
  f0 : Bool
  f1 : ByteArray
  f2 : ByteArray
  f3 : Int
def z124 : S124 := ⟨false, (⟨#[]⟩ : ByteArray), (⟨#[]⟩ : ByteArray), (0 : Int)⟩
end Go.Proofs.YtnnoegjgaelafaaDoor.Nu
namespace Go.Proofs.YtnnoegjgaelafaaDoor.Nu
open Go.RowKit Go.Proofs.YtnnoegjgaelafaaDoorW.PrintWords Go.Proofs.YtnnoegjgaelafaaDoorW.PrintLast Go.Proofs.YtnnoegjgaelafaaDoorW.PrintMore
attribute [local go_sem] max2_int min2_int max_two min_two max_three min_three max_four min_four   -- for this text's walks alone
set_option linter.unusedVariables false
set_option linter.unusedSimpArgs false

def numeral_digit.f (a0 : Int) : Option (Bool) := if a0 ≥ 48 then (some (decide (a0 ≤ 57))) else (some false)
set_option maxHeartbeats 8000000 in
set_option maxRecDepth 100000 in
theorem numeral_digit.calls (a0 : Int) (r : Bool) (w : World) (h : numeral_digit.f a0 = some r) :
    Calls Tryd.prog 102 #[.int .u8 a0] w fun e w' => e = .returned (.bool r) ∧ Drawn0 w w' := by
  have H : (if a0 ≥ 48 then (some (decide (a0 ≤ 57))) else (some false)) = some r := h
  clear h
  by_cases c2 : a0 ≥ 48
  · rw [if_pos c2] at H
    have c2b0 : decide (48 ≤ a0) = true := decide_eq_true c2
    clear c2
    obtain rfl := Option.some.inj H
    go_enter Tryd.func102, Tryd.ntmps102
    go_wp2
    go_ret
    exact ⟨by first | rfl | (simp; done) | (simp [*]; done), by repeat (first | exact Drawn0.refl _ | apply Drawn0.step)⟩
  · rw [if_neg c2] at H
    have c2b0 : decide (48 ≤ a0) = false := decide_eq_false c2
    clear c2
    obtain rfl := Option.some.inj H
    go_enter Tryd.func102, Tryd.ntmps102
    go_wp2
    go_ret
    exact ⟨by first | rfl | (simp; done) | (simp [*]; done), by repeat (first | exact Drawn0.refl _ | apply Drawn0.step)⟩

end Go.Proofs.YtnnoegjgaelafaaDoor.Nu
namespace Go.Proofs
open Go.Shelf
def Tryd.lays161_ren : Go.Shelf.Ren := ⟨fun | 161 => 90 | 231 => 103 | 227 => 104 | 233 => 105 | 235 => 106 | 228 => 115 | 197 => 116 | 151 => 117 | 260 => 121 | 152 => 122 | 137 => 78 | 119 => 124 | 224 => 125 | 225 => 126 | 217 => 99 | 266 => 109 | n => n, fun | 9 => 9 | 4 => 4 | 3 => 3 | 5 => 5 | 117 => 154 | 116 => 153 | 0 => 0 | 124 => 157 | 105 => 162 | 21 => 21 | 119 => 99 | 46 => 144 | 139 => 168 | 138 => 167 | n => n, fun | 3 => 3 | 4 => 4 | n => n⟩
theorem Tryd.lays161 : Go.Proofs.Lays.n161 Tryd.prog Tryd.lays161_ren := {
  mixed := by kernel_rfl
  f119 := Tryd.func124.trans (congrArg some (by kernel_rfl))
  f137 := Tryd.func78.trans (congrArg some (by kernel_rfl))
  f151 := Tryd.func117.trans (congrArg some (by kernel_rfl))
  f152 := Tryd.func122.trans (congrArg some (by kernel_rfl))
  f161 := Tryd.func90.trans (congrArg some (by kernel_rfl))
  f197 := Tryd.func116.trans (congrArg some (by kernel_rfl))
  f217 := Tryd.func99.trans (congrArg some (by kernel_rfl))
  f224 := Tryd.func125.trans (congrArg some (by kernel_rfl))
  f225 := Tryd.func126.trans (congrArg some (by kernel_rfl))
  f227 := Tryd.func104.trans (congrArg some (by kernel_rfl))
  f228 := Tryd.func115.trans (congrArg some (by kernel_rfl))
  f231 := Tryd.func103.trans (congrArg some (by kernel_rfl))
  f233 := Tryd.func105.trans (congrArg some (by kernel_rfl))
  f235 := Tryd.func106.trans (congrArg some (by kernel_rfl))
  f260 := Tryd.func121.trans (congrArg some (by kernel_rfl))
  f266 := Tryd.func109.trans (congrArg some (by kernel_rfl))
  t0 := Tryd.underlying0
  a0 := Tryd.isAgg0
  z0 := Tryd.sizeOf0
  v0 := Tryd.zeroValue0
  t3 := Tryd.underlying3
  a3 := Tryd.isAgg3
  z3 := Tryd.sizeOf3
  v3 := Tryd.zeroValue3
  t4 := Tryd.underlying4
  a4 := Tryd.isAgg4
  z4 := Tryd.sizeOf4
  v4 := Tryd.zeroValue4
  t5 := Tryd.underlying5
  a5 := Tryd.isAgg5
  z5 := Tryd.sizeOf5
  v5 := Tryd.zeroValue5
  t9 := Tryd.underlying9
  a9 := Tryd.isAgg9
  z9 := Tryd.sizeOf9
  v9 := Tryd.zeroValue9
  t21 := Tryd.underlying21
  a21 := Tryd.isAgg21
  z21 := Tryd.sizeOf21
  v21 := Tryd.zeroValue21
  t46 := Tryd.underlying144
  a46 := Tryd.isAgg144
  z46 := Tryd.sizeOf144
  v46 := Tryd.zeroValue144
  t105 := Tryd.underlying162
  a105 := Tryd.isAgg162
  z105 := Tryd.sizeOf162
  v105 := Tryd.zeroValue162
  t116 := Tryd.underlying153
  a116 := Tryd.isAgg153
  z116 := Tryd.sizeOf153
  t117 := Tryd.underlying154
  a117 := Tryd.isAgg154
  z117 := Tryd.sizeOf154
  v117 := Tryd.zeroValue154
  t119 := Tryd.underlying99
  a119 := Tryd.isAgg99
  z119 := Tryd.sizeOf99
  t124 := Tryd.underlying157
  a124 := Tryd.isAgg157
  z124 := Tryd.sizeOf157
  v124 := Tryd.zeroValue157
  t138 := Tryd.underlying167
  a138 := Tryd.isAgg167
  z138 := Tryd.sizeOf167
  v138 := Tryd.zeroValue167
  t139 := Tryd.underlying168
  a139 := Tryd.isAgg168
  z139 := Tryd.sizeOf168
  v139 := Tryd.zeroValue168
  g3 := by kernel_rfl
  g4 := by kernel_rfl }
open Go.RowKit in
/-- strings.TrimLeft: "TrimLeft returns a slice of the string s with all leading Unicode code points contained in cutset removed.": AT A cutset OF ONE ASCII BYTE. The world is as it was. (LAID: no walk: one application.) -/
theorem Tryd.strings_TrimLeft_one (s : ByteArray) (c : UInt8) (hc : c.toNat < 128) (w : World) :
    Calls Tryd.prog 90 #[.string s, .string ⟨#[c]⟩] w fun e w' => e = .returned (.string ⟨(Lib.trimLeftB s.data.toList c).toArray⟩) ∧ w' = w := Any.strings_TrimLeft_one Tryd.lays161 s c hc w
def Tryd.lays162_ren : Go.Shelf.Ren := ⟨fun | 162 => 101 | 232 => 112 | 227 => 104 | 234 => 113 | 236 => 114 | 228 => 115 | 271 => 120 | 151 => 117 | 120 => 123 | 197 => 116 | 152 => 122 | 260 => 121 | 137 => 78 | 119 => 124 | 224 => 125 | 225 => 126 | 217 => 99 | 266 => 109 | n => n, fun | 9 => 9 | 4 => 4 | 3 => 3 | 5 => 5 | 117 => 154 | 116 => 153 | 0 => 0 | 124 => 157 | 21 => 21 | 105 => 162 | 46 => 144 | 119 => 99 | 139 => 168 | 138 => 167 | n => n, fun | 3 => 3 | 4 => 4 | n => n⟩
theorem Tryd.lays162 : Go.Proofs.Lays.n162 Tryd.prog Tryd.lays162_ren := {
  mixed := by kernel_rfl
  f119 := Tryd.func124.trans (congrArg some (by kernel_rfl))
  f120 := Tryd.func123.trans (congrArg some (by kernel_rfl))
  f137 := Tryd.func78.trans (congrArg some (by kernel_rfl))
  f151 := Tryd.func117.trans (congrArg some (by kernel_rfl))
  f152 := Tryd.func122.trans (congrArg some (by kernel_rfl))
  f162 := Tryd.func101.trans (congrArg some (by kernel_rfl))
  f197 := Tryd.func116.trans (congrArg some (by kernel_rfl))
  f217 := Tryd.func99.trans (congrArg some (by kernel_rfl))
  f224 := Tryd.func125.trans (congrArg some (by kernel_rfl))
  f225 := Tryd.func126.trans (congrArg some (by kernel_rfl))
  f227 := Tryd.func104.trans (congrArg some (by kernel_rfl))
  f228 := Tryd.func115.trans (congrArg some (by kernel_rfl))
  f232 := Tryd.func112.trans (congrArg some (by kernel_rfl))
  f234 := Tryd.func113.trans (congrArg some (by kernel_rfl))
  f236 := Tryd.func114.trans (congrArg some (by kernel_rfl))
  f260 := Tryd.func121.trans (congrArg some (by kernel_rfl))
  f266 := Tryd.func109.trans (congrArg some (by kernel_rfl))
  f271 := Tryd.func120.trans (congrArg some (by kernel_rfl))
  t0 := Tryd.underlying0
  a0 := Tryd.isAgg0
  z0 := Tryd.sizeOf0
  v0 := Tryd.zeroValue0
  t3 := Tryd.underlying3
  a3 := Tryd.isAgg3
  z3 := Tryd.sizeOf3
  v3 := Tryd.zeroValue3
  t4 := Tryd.underlying4
  a4 := Tryd.isAgg4
  z4 := Tryd.sizeOf4
  v4 := Tryd.zeroValue4
  t5 := Tryd.underlying5
  a5 := Tryd.isAgg5
  z5 := Tryd.sizeOf5
  v5 := Tryd.zeroValue5
  t9 := Tryd.underlying9
  a9 := Tryd.isAgg9
  z9 := Tryd.sizeOf9
  v9 := Tryd.zeroValue9
  t21 := Tryd.underlying21
  a21 := Tryd.isAgg21
  z21 := Tryd.sizeOf21
  v21 := Tryd.zeroValue21
  t46 := Tryd.underlying144
  a46 := Tryd.isAgg144
  z46 := Tryd.sizeOf144
  v46 := Tryd.zeroValue144
  t105 := Tryd.underlying162
  a105 := Tryd.isAgg162
  z105 := Tryd.sizeOf162
  v105 := Tryd.zeroValue162
  t116 := Tryd.underlying153
  a116 := Tryd.isAgg153
  z116 := Tryd.sizeOf153
  t117 := Tryd.underlying154
  a117 := Tryd.isAgg154
  z117 := Tryd.sizeOf154
  v117 := Tryd.zeroValue154
  t119 := Tryd.underlying99
  a119 := Tryd.isAgg99
  z119 := Tryd.sizeOf99
  t124 := Tryd.underlying157
  a124 := Tryd.isAgg157
  z124 := Tryd.sizeOf157
  v124 := Tryd.zeroValue157
  t138 := Tryd.underlying167
  a138 := Tryd.isAgg167
  z138 := Tryd.sizeOf167
  v138 := Tryd.zeroValue167
  t139 := Tryd.underlying168
  a139 := Tryd.isAgg168
  z139 := Tryd.sizeOf168
  v139 := Tryd.zeroValue168
  g3 := by kernel_rfl
  g4 := by kernel_rfl }
open Go.RowKit in
/-- strings.TrimRight: "TrimRight returns a slice of the string s, with all trailing Unicode code points contained in cutset removed.": AT A cutset OF ONE ASCII BYTE. The world is as it was. (LAID: no walk: one application.) -/
theorem Tryd.strings_TrimRight_one (s : ByteArray) (c : UInt8) (hc : c.toNat < 128) (w : World) (hs : s.size ≤ 9223372036854775807) :
    Calls Tryd.prog 101 #[.string s, .string ⟨#[c]⟩] w fun e w' => e = .returned (.string ⟨(Lib.trimRightB s.data.toList c).toArray⟩) ∧ w' = w := Any.strings_TrimRight_one Tryd.lays162 s c hc w hs
def Tryd.lays122_ren : Go.Shelf.Ren := ⟨fun | 122 => 75 | 215 => 95 | n => n, fun | 3 => 3 | 4 => 4 | n => n, fun | n => n⟩
theorem Tryd.lays122 : Go.Proofs.Lays.n122 Tryd.prog Tryd.lays122_ren := {
  mixed := by kernel_rfl
  f122 := Tryd.func75.trans (congrArg some (by kernel_rfl))
  f215 := Tryd.func95.trans (congrArg some (by kernel_rfl))
  t3 := Tryd.underlying3
  a3 := Tryd.isAgg3
  z3 := Tryd.sizeOf3
  v3 := Tryd.zeroValue3
  t4 := Tryd.underlying4
  a4 := Tryd.isAgg4
  z4 := Tryd.sizeOf4
  v4 := Tryd.zeroValue4 }
open Go.RowKit in
/-- cmp.Compare at int: "Compare returns -1 if x is less than y, 0 if x equals y, +1 if x is greater than y.": IT RETURNS 'Lib.compareInt x y'; the world is as it was. (LAID: no walk: one application.) -/
theorem Tryd.cmp_Compare_int (x y : Int) (w : World) :
    Calls Tryd.prog 75 #[.int .i64 x, .int .i64 y] w fun e w' => e = .returned (.int .i64 (Lib.compareInt x y)) ∧ w' = w := Any.cmp_Compare_int Tryd.lays122 x y w
end Go.Proofs
namespace Go.Proofs.YtnnoegjgaelafaaDoor
open Go.RowKit Go.Great Go.Proofs.YtnnoegjgaelafaaDoorW.PrintWords Go.Proofs.YtnnoegjgaelafaaDoorW.PrintLast
set_option linter.unusedVariables false
set_option linter.unusedSimpArgs false

def strings_TrimLeft.f (a0 : ByteArray) (a1 : ByteArray) : Option ByteArray := if a1 = (⟨#[48]⟩ : ByteArray) then some ⟨(Lib.trimLeftB a0.data.toList 48).toArray⟩ else none
theorem strings_TrimLeft.calls (a0 : ByteArray) (a1 : ByteArray) (r : ByteArray) (w : World) (h : strings_TrimLeft.f a0 a1 = some r) :
    Calls Tryd.prog 90 #[.string a0, .string a1] w fun e w' => e = .returned (.string r) ∧ Drawn0 w w' := by
  unfold strings_TrimLeft.f at h
  by_cases hc : a1 = (⟨#[48]⟩ : ByteArray)
  · rw [if_pos hc] at h
    obtain rfl := Option.some.inj h
    subst hc
    exact (Tryd.strings_TrimLeft_one a0 48 (by decide) w).mono fun e w' ⟨he, hw⟩ => ⟨he, hw ▸ Drawn0.refl _⟩
  · rw [if_neg hc] at h
    exact absurd h (by simp)
def strings_TrimRight.f (a0 : ByteArray) (a1 : ByteArray) : Option ByteArray := if a1 = (⟨#[48]⟩ : ByteArray) ∧ a0.size ≤ 9223372036854775807 then some ⟨(Lib.trimRightB a0.data.toList 48).toArray⟩ else none
theorem strings_TrimRight.calls (a0 : ByteArray) (a1 : ByteArray) (r : ByteArray) (w : World) (h : strings_TrimRight.f a0 a1 = some r) :
    Calls Tryd.prog 101 #[.string a0, .string a1] w fun e w' => e = .returned (.string r) ∧ Drawn0 w w' := by
  unfold strings_TrimRight.f at h
  by_cases hc : a1 = (⟨#[48]⟩ : ByteArray) ∧ a0.size ≤ 9223372036854775807
  · rw [if_pos hc] at h
    obtain rfl := Option.some.inj h
    obtain ⟨rfl, hs⟩ := hc
    exact (Tryd.strings_TrimRight_one a0 48 (by decide) w hs).mono fun e w' ⟨he, hw⟩ => ⟨he, hw ▸ Drawn0.refl _⟩
  · rw [if_neg hc] at h
    exact absurd h (by simp)
def cmp_Compare_int.f (a0 : Int) (a1 : Int) : Option Int := some (Lib.compareInt a0 a1)
theorem cmp_Compare_int.calls (a0 : Int) (a1 : Int) (r : Int) (w : World) (h : cmp_Compare_int.f a0 a1 = some r) :
    Calls Tryd.prog 75 #[.int .i64 a0, .int .i64 a1] w fun e w' => e = .returned (.int .i64 r) ∧ Drawn0 w w' := by
  obtain rfl := Option.some.inj h
  exact (Tryd.cmp_Compare_int a0 a1 w).mono fun e w' ⟨he, hw⟩ => ⟨he, hw ▸ Drawn0.refl _⟩

end Go.Proofs.YtnnoegjgaelafaaDoor
namespace Go.Proofs.YtnnoegjgaelafaaDoor.Pr
variable {P : Program} {Q : Exit → Act → World → Prop} {a : Act} {w : World}
/-- The jumps of a scope, by label. -/
def jumps (J : Nat → Act → World → Prop) (Q : Exit → Act → World → Prop) : Exit → Act → World → Prop
  | .goto l, a, w => J l a w
  | e, a, w => Q e a w
theorem wp_scope_many {c : Code} (J : Nat → Act → World → Prop) (μ : Nat → Act → World → Nat)
    (first : c.wp P (jumps J Q) a w)
    (pass : ∀ n l a w, μ l a w = n → J l a w → ∃ rest, findLabel c l = some rest ∧ rest.wp P (jumps (fun l' a' w' => J l' a' w' ∧ μ l' a' w' < n) Q) a w) : (Code.scope c).wp P Q a w := by
  intro b k cs
  have hg : ∀ l rest, findLabel c l = some rest → gotoIn l (.inScope c :: k) = some (.code rest :: .inScope c :: k) := fun l rest hf => by simp [gotoIn, hf]
  have key : ∀ n l a w rest, findLabel c l = some rest → μ l a w = n → J l a w → ∃ e a' w', Q e a' w' ∧ Arrives P (lone (b.at a (.code rest :: .inScope c :: k)) cs w) b k cs e a' w' := by
    intro n
    induction n using Nat.strongRecOn with
    | _ n ih =>
      intro l a w rest hf hn hJ
      obtain ⟨rest', hf', hp⟩ := pass n l a w hn hJ
      obtain rfl : rest = rest' := Option.some.inj (hf.symm.trans hf')
      obtain ⟨e, a₁, w₁, hq, harr⟩ := hp b (.inScope c :: k) cs
      cases e with
      | normal => exact ⟨.normal, a₁, w₁, hq, Steps.trans harr (.one step_inScope)⟩
      | exit id => exact ⟨.exit id, a₁, w₁, hq, fun k' hk => harr k' (by simp [exitTo, hk])⟩
      | goto l' =>
        obtain ⟨hJ', hlt⟩ := hq
        obtain ⟨rest₂, hf₂, _⟩ := pass _ l' a₁ w₁ rfl hJ'
        obtain ⟨e₂, a₂, w₂, hq₂, harr₂⟩ := ih _ (by omega) l' a₁ w₁ rest₂ hf₂ rfl hJ'
        exact ⟨e₂, a₂, w₂, hq₂, .of_steps (harr _ (hg _ _ hf₂)) harr₂⟩
      | ret => exact ⟨_, a₁, w₁, hq, harr⟩
      | panic ch => exact ⟨_, a₁, w₁, hq, harr⟩
      | outgrown => exact ⟨_, a₁, w₁, hq, harr⟩
  obtain ⟨e, a₁, w₁, hq, harr⟩ := first b (.inScope c :: k) cs
  cases e with
  | normal => exact ⟨.normal, a₁, w₁, hq, .head step_scope (Steps.trans harr (.one step_inScope))⟩
  | exit id => exact ⟨.exit id, a₁, w₁, hq, fun k' hk => .head step_scope (harr k' (by simp [exitTo, hk]))⟩
  | goto l' =>
    obtain ⟨rest₂, hf₂, _⟩ := pass _ l' a₁ w₁ rfl hq
    obtain ⟨e₂, a₂, w₂, hq₂, harr₂⟩ := key _ l' a₁ w₁ rest₂ hf₂ rfl hq
    exact ⟨e₂, a₂, w₂, hq₂, .of_steps (.head step_scope (harr _ (hg _ _ hf₂))) harr₂⟩
  | ret => exact ⟨_, a₁, w₁, hq, .of_steps (.one step_scope) harr⟩
  | panic ch => exact ⟨_, a₁, w₁, hq, .of_steps (.one step_scope) harr⟩
  | outgrown => exact ⟨_, a₁, w₁, hq, .of_steps (.one step_scope) harr⟩
end Go.Proofs.YtnnoegjgaelafaaDoor.Pr
namespace Go.Proofs.YtnnoegjgaelafaaDoor.Nu
open Go.RowKit Go.Proofs.YtnnoegjgaelafaaDoorW.PrintWords Go.Proofs.YtnnoegjgaelafaaDoorW.PrintLast Go.Proofs.YtnnoegjgaelafaaDoorW.PrintMore
attribute [local go_sem] max2_int min2_int max_two min_two max_three min_three max_four min_four   -- for this text's walks alone
set_option linter.unusedVariables false
set_option linter.unusedSimpArgs false

def numeral_blanks.l0 : Nat → ByteArray → Int → Option (Int)
  | 0, _, _ => none
  | k + 1, x0, x3 => if x3 < (x0.size : Int) then (if 0 ≤ x3 then (if (bt x0 x3) = 32 then (numeral_blanks.l0 k x0 (wrap64 (x3 + 1))) else (if (bt x0 x3) = 9 then (numeral_blanks.l0 k x0 (wrap64 (x3 + 1))) else (some x3))) else (none)) else (some x3)
def numeral_blanks.f (k : Nat) (a0 : ByteArray) : Option (Int) := numeral_blanks.l0 k a0 0
set_option maxHeartbeats 8000000 in
set_option maxRecDepth 100000 in
theorem numeral_blanks.calls (k : Nat) (a0 : ByteArray) (r : Int) (w : World) (h : numeral_blanks.f k a0 = some r) :
    Calls Tryd.prog 84 #[.string a0] w fun e w' => e = .returned (.int .i64 r) ∧ Drawn0 w w' := by
  have H : (numeral_blanks.l0 k a0 0) = some r := h
  clear h
  have H' := Aside0.mk H
  clear H
  go_enter Tryd.func84, Tryd.ntmps84
  go_wp2
  go_loopg [3] k (fun kq v3 w' => ∃ (x3_1 : Int), v3 = .int .i64 x3_1 ∧ Aside0 (numeral_blanks.l0 kq a0 x3_1 = some r) ∧ Aside0 (kq ≤ k) ∧ Drawn0 w w')
  case atStart => exact ⟨(0), (by first | rfl | (simp; done) | (simp [*]; done)), H', ⟨Nat.le_refl _⟩, by repeat (first | exact Drawn0.refl _ | apply Drawn0.step)⟩
  case round =>
    clear H'
    obtain ⟨x3_1, rfl, HA, HK1, ⟨m1, rfl⟩⟩ := hrel
    cases gk with
    | zero => exact absurd HA.out (by simp [numeral_blanks.l0])
    | succ k1 =>
      have H := HA.out
      clear HA
      simp only [numeral_blanks.l0] at H
      by_cases c2 : x3_1 < (a0.size : Int)
      · rw [if_pos c2] at H
        have c2b0 : decide (x3_1 < (a0.size : Int)) = true := decide_eq_true c2
        clear c2
        by_cases c3 : 0 ≤ x3_1
        · rw [if_pos c3] at H
          have c3b0 : decide (0 ≤ x3_1) = true := decide_eq_true c3
          clear c3
          by_cases c5 : (bt a0 x3_1) = 32
          · rw [if_pos c5] at H
            have c5b0 : ((bt a0 x3_1) == 32) = true := beq_iff_eq.mpr c5
            have c5b1 : ((bt a0 x3_1) != 32) = false := bne_eq_false_iff_eq.mpr c5
            clear c5
            have H' := Aside0.mk H
            clear H
            have p4 : 0 ≤ (x3_1 : Int) := of_decide_eq_true (by first | (with_reducible assumption) | assumption)
            have q4 : x3_1 < (a0.size : Int) := of_decide_eq_true (by first | (with_reducible assumption) | assumption)
            have hx4 := bt_at a0 x3_1
            replace p4 := eq_true p4
            replace q4 := eq_true q4
            go_wp2
            go_roundg k1
            case measure => have := HK1.out; omega
            case rel => exact ⟨(wrap64 (x3_1 + 1)), (by first | rfl | (simp; done) | (simp [*]; done)), H', ⟨by have := HK1.out; omega⟩, by repeat (first | exact Drawn0.refl _ | apply Drawn0.step)⟩
          · rw [if_neg c5] at H
            have c5b0 : ((bt a0 x3_1) == 32) = false := beq_eq_false_iff_ne.mpr c5
            have c5b1 : ((bt a0 x3_1) != 32) = true := bne_iff_ne.mpr c5
            by_cases c7 : (bt a0 x3_1) = 9
            · rw [if_pos c7] at H
              have c7b0 : ((bt a0 x3_1) == 9) = true := beq_iff_eq.mpr c7
              have c7b1 : ((bt a0 x3_1) != 9) = false := bne_eq_false_iff_eq.mpr c7
              clear c7
              have H' := Aside0.mk H
              clear H
              have p4 : 0 ≤ (x3_1 : Int) := of_decide_eq_true (by first | (with_reducible assumption) | assumption)
              have q4 : x3_1 < (a0.size : Int) := of_decide_eq_true (by first | (with_reducible assumption) | assumption)
              have hx4 := bt_at a0 x3_1
              replace p4 := eq_true p4
              replace q4 := eq_true q4
              have p6 : 0 ≤ (x3_1 : Int) := of_decide_eq_true (by first | (with_reducible assumption) | assumption)
              have q6 : x3_1 < (a0.size : Int) := of_decide_eq_true (by first | (with_reducible assumption) | assumption)
              have hx6 := bt_at a0 x3_1
              replace p6 := eq_true p6
              replace q6 := eq_true q6
              go_wp2
              go_roundg k1
              case measure => have := HK1.out; omega
              case rel => exact ⟨(wrap64 (x3_1 + 1)), (by first | rfl | (simp; done) | (simp [*]; done)), H', ⟨by have := HK1.out; omega⟩, by repeat (first | exact Drawn0.refl _ | apply Drawn0.step)⟩
            · rw [if_neg c7] at H
              have c7b0 : ((bt a0 x3_1) == 9) = false := beq_eq_false_iff_ne.mpr c7
              have c7b1 : ((bt a0 x3_1) != 9) = true := bne_iff_ne.mpr c7
              obtain rfl := Option.some.inj H
              have p4 : 0 ≤ (x3_1 : Int) := of_decide_eq_true (by first | (with_reducible assumption) | assumption)
              have q4 : x3_1 < (a0.size : Int) := of_decide_eq_true (by first | (with_reducible assumption) | assumption)
              have hx4 := bt_at a0 x3_1
              replace p4 := eq_true p4
              replace q4 := eq_true q4
              have p6 : 0 ≤ (x3_1 : Int) := of_decide_eq_true (by first | (with_reducible assumption) | assumption)
              have q6 : x3_1 < (a0.size : Int) := of_decide_eq_true (by first | (with_reducible assumption) | assumption)
              have hx6 := bt_at a0 x3_1
              replace p6 := eq_true p6
              replace q6 := eq_true q6
              go_wp2
              go_ret
              exact ⟨by first | rfl | (simp; done) | (simp [*]; done), by repeat (first | exact Drawn0.refl _ | apply Drawn0.step)⟩
        · rw [if_neg c3] at H
          exact absurd H (by simp)
      · rw [if_neg c2] at H
        have c2b0 : decide (x3_1 < (a0.size : Int)) = false := decide_eq_false c2
        clear c2
        obtain rfl := Option.some.inj H
        go_wp2
        go_ret
        exact ⟨by first | rfl | (simp; done) | (simp [*]; done), by repeat (first | exact Drawn0.refl _ | apply Drawn0.step)⟩

end Go.Proofs.YtnnoegjgaelafaaDoor.Nu
namespace Go.Proofs.YtnnoegjgaelafaaDoor.Nu
open Go.RowKit Go.Proofs.YtnnoegjgaelafaaDoorW.PrintWords Go.Proofs.YtnnoegjgaelafaaDoorW.PrintLast Go.Proofs.YtnnoegjgaelafaaDoorW.PrintMore
attribute [local go_sem] max2_int min2_int max_two min_two max_three min_three max_four min_four   -- for this text's walks alone
set_option linter.unusedVariables false
set_option linter.unusedSimpArgs false

def numeral_begins.l0 : Nat → ByteArray → Int → ByteArray → Int → Int → Option (Bool)
  | 0, _, _, _, _, _ => none
  | k + 1, x0, x1, x2, x16, x17 => if x17 < x16 then (if 0 ≤ (wrap64 (x1 + x17)) then (if (wrap64 (x1 + x17)) < (x0.size : Int) then (if 0 ≤ x17 then (if x17 < (x2.size : Int) then (if (Go.bits .or .u8 (bt x0 (wrap64 (x1 + x17))) 32) = (bt x2 x17) then (if (bt x0 (wrap64 (x1 + x17))) < 65 then (some false) else (numeral_begins.l0 k x0 x1 x2 x16 (wrap64 (x17 + 1)))) else (some false)) else (none)) else (none)) else (none)) else (none)) else (some true)
def numeral_begins.f (k : Nat) (a0 : ByteArray) (a1 : Int) (a2 : ByteArray) : Option (Bool) := if (wrap64 ((a0.size : Int) - a1)) < (a2.size : Int) then (some false) else (numeral_begins.l0 k a0 a1 a2 (a2.size : Int) 0)
set_option maxHeartbeats 8000000 in
set_option maxRecDepth 100000 in
theorem numeral_begins.calls (k : Nat) (a0 : ByteArray) (a1 : Int) (a2 : ByteArray) (r : Bool) (w : World) (h : numeral_begins.f k a0 a1 a2 = some r) :
    Calls Tryd.prog 85 #[.string a0, .int .i64 a1, .string a2] w fun e w' => e = .returned (.bool r) ∧ Drawn0 w w' := by
  have H : (if (wrap64 ((a0.size : Int) - a1)) < (a2.size : Int) then (some false) else (numeral_begins.l0 k a0 a1 a2 (a2.size : Int) 0)) = some r := h
  clear h
  by_cases c4 : (wrap64 ((a0.size : Int) - a1)) < (a2.size : Int)
  · rw [if_pos c4] at H
    have c4b0 : decide ((wrap64 ((a0.size : Int) - a1)) < (a2.size : Int)) = true := decide_eq_true c4
    clear c4
    obtain rfl := Option.some.inj H
    go_enter Tryd.func85, Tryd.ntmps85
    go_wp2
    repeat (go_quiet (fail); try go_wp2)
    go_ret
    exact ⟨by first | rfl | (simp; done) | (simp [*]; done), by repeat (first | exact Drawn0.refl _ | apply Drawn0.step)⟩
  · rw [if_neg c4] at H
    have c4b0 : decide ((wrap64 ((a0.size : Int) - a1)) < (a2.size : Int)) = false := decide_eq_false c4
    clear c4
    have H' := Aside0.mk H
    clear H
    go_enter Tryd.func85, Tryd.ntmps85
    go_wp2
    repeat (go_quiet (fail); try go_wp2)
    go_loopg [17] k (fun kq v17 w' => ∃ (x17_1 : Int), v17 = .int .i64 x17_1 ∧ Aside0 (numeral_begins.l0 kq a0 a1 a2 (a2.size : Int) x17_1 = some r) ∧ Aside0 (kq ≤ k) ∧ Drawn0 w w')
    case atStart => exact ⟨(0), (by first | rfl | (simp; done) | (simp [*]; done)), H', ⟨Nat.le_refl _⟩, by repeat (first | exact Drawn0.refl _ | apply Drawn0.step)⟩
    case round =>
      clear H'
      try clear p2
      try clear c4
      try clear c4b0
      obtain ⟨x17_1, rfl, HA, HK1, ⟨m1, rfl⟩⟩ := hrel
      cases gk with
      | zero => exact absurd HA.out (by simp [numeral_begins.l0])
      | succ k1 =>
        have H := HA.out
        clear HA
        simp only [numeral_begins.l0] at H
        by_cases c5 : x17_1 < (a2.size : Int)
        · rw [if_pos c5] at H
          have c5b0 : decide (x17_1 < (a2.size : Int)) = true := decide_eq_true c5
          clear c5
          obtain ⟨ji6, hji6⟩ : ∃ j_ : Int, (wrap64 (a1 + x17_1)) = j_ := ⟨_, rfl⟩
          replace H : (if 0 ≤ (ji6) then (if (ji6) < (a0.size : Int) then (if 0 ≤ x17_1 then (if x17_1 < (a2.size : Int) then (if (Go.bits .or .u8 (bt a0 (ji6)) 32) = (bt a2 x17_1) then (if (bt a0 (ji6)) < 65 then (some false) else (numeral_begins.l0 k1 a0 a1 a2 (a2.size : Int) (wrap64 (x17_1 + 1)))) else (some false)) else (none)) else (none)) else (none)) else (none)) = some r := by first | (rw [hji6] at H; exact H) | (simp only [hji6] at H ⊢; exact H)
          have hji6w : (IntKind.i64.wrap (a1 + x17_1)) = ji6 := (i64_w _).trans hji6
          by_cases c7 : 0 ≤ (ji6)
          · rw [if_pos c7] at H
            have c7b0 : decide (0 ≤ (ji6)) = true := decide_eq_true c7
            clear c7
            by_cases c8 : (ji6) < (a0.size : Int)
            · rw [if_pos c8] at H
              have c8b0 : decide ((ji6) < (a0.size : Int)) = true := decide_eq_true c8
              clear c8
              by_cases c10 : 0 ≤ x17_1
              · rw [if_pos c10] at H
                have c10b0 : decide (0 ≤ x17_1) = true := decide_eq_true c10
                clear c10
                by_cases c11 : x17_1 < (a2.size : Int)
                · rw [if_pos c11] at H
                  have c11b0 : decide (x17_1 < (a2.size : Int)) = true := decide_eq_true c11
                  clear c11
                  by_cases c13 : (Go.bits .or .u8 (bt a0 (ji6)) 32) = (bt a2 x17_1)
                  · rw [if_pos c13] at H
                    have c13b0 : ((Go.bits .or .u8 (bt a0 (ji6)) 32) == (bt a2 x17_1)) = true := beq_iff_eq.mpr c13
                    have c13b1 : ((Go.bits .or .u8 (bt a0 (ji6)) 32) != (bt a2 x17_1)) = false := bne_eq_false_iff_eq.mpr c13
                    clear c13
                    by_cases c15 : (bt a0 (ji6)) < 65
                    · rw [if_pos c15] at H
                      have c15b0 : decide ((bt a0 (ji6)) < 65) = true := decide_eq_true c15
                      clear c15
                      obtain rfl := Option.some.inj H
                      have p9 : 0 ≤ ((ji6) : Int) := of_decide_eq_true (by first | (with_reducible assumption) | assumption)
                      have q9 : (ji6) < (a0.size : Int) := of_decide_eq_true (by first | (with_reducible assumption) | assumption)
                      have hx9 := bt_at a0 (ji6)
                      replace p9 := eq_true p9
                      replace q9 := eq_true q9
                      have p12 : 0 ≤ (x17_1 : Int) := of_decide_eq_true (by first | (with_reducible assumption) | assumption)
                      have q12 : x17_1 < (a2.size : Int) := of_decide_eq_true (by first | (with_reducible assumption) | assumption)
                      have hx12 := bt_at a2 x17_1
                      replace p12 := eq_true p12
                      replace q12 := eq_true q12
                      have p14 : 0 ≤ ((ji6) : Int) := of_decide_eq_true (by first | (with_reducible assumption) | assumption)
                      have q14 : (ji6) < (a0.size : Int) := of_decide_eq_true (by first | (with_reducible assumption) | assumption)
                      have hx14 := bt_at a0 (ji6)
                      replace p14 := eq_true p14
                      replace q14 := eq_true q14
                      go_wp2
                      repeat (go_quiet (fail); try go_wp2)
                      go_ret
                      exact ⟨by first | rfl | (simp; done) | (simp only [← hji6] <;> (first | rfl | simp)) | (simp [*]; done), by repeat (first | exact Drawn0.refl _ | apply Drawn0.step)⟩
                    · rw [if_neg c15] at H
                      have c15b0 : decide ((bt a0 (ji6)) < 65) = false := decide_eq_false c15
                      clear c15
                      have H' := Aside0.mk H
                      clear H
                      have p9 : 0 ≤ ((ji6) : Int) := of_decide_eq_true (by first | (with_reducible assumption) | assumption)
                      have q9 : (ji6) < (a0.size : Int) := of_decide_eq_true (by first | (with_reducible assumption) | assumption)
                      have hx9 := bt_at a0 (ji6)
                      replace p9 := eq_true p9
                      replace q9 := eq_true q9
                      have p12 : 0 ≤ (x17_1 : Int) := of_decide_eq_true (by first | (with_reducible assumption) | assumption)
                      have q12 : x17_1 < (a2.size : Int) := of_decide_eq_true (by first | (with_reducible assumption) | assumption)
                      have hx12 := bt_at a2 x17_1
                      replace p12 := eq_true p12
                      replace q12 := eq_true q12
                      have p14 : 0 ≤ ((ji6) : Int) := of_decide_eq_true (by first | (with_reducible assumption) | assumption)
                      have q14 : (ji6) < (a0.size : Int) := of_decide_eq_true (by first | (with_reducible assumption) | assumption)
                      have hx14 := bt_at a0 (ji6)
                      replace p14 := eq_true p14
                      replace q14 := eq_true q14
                      go_wp2
                      repeat (go_quiet (fail); try go_wp2)
                      go_roundg k1
                      case measure => have := HK1.out; omega
                      case rel => exact ⟨(wrap64 (x17_1 + 1)), (by first | rfl | (simp; done) | (simp [*]; done)), H', ⟨by have := HK1.out; omega⟩, by repeat (first | exact Drawn0.refl _ | apply Drawn0.step)⟩
                  · rw [if_neg c13] at H
                    have c13b0 : ((Go.bits .or .u8 (bt a0 (ji6)) 32) == (bt a2 x17_1)) = false := beq_eq_false_iff_ne.mpr c13
                    have c13b1 : ((Go.bits .or .u8 (bt a0 (ji6)) 32) != (bt a2 x17_1)) = true := bne_iff_ne.mpr c13
                    obtain rfl := Option.some.inj H
                    have p9 : 0 ≤ ((ji6) : Int) := of_decide_eq_true (by first | (with_reducible assumption) | assumption)
                    have q9 : (ji6) < (a0.size : Int) := of_decide_eq_true (by first | (with_reducible assumption) | assumption)
                    have hx9 := bt_at a0 (ji6)
                    replace p9 := eq_true p9
                    replace q9 := eq_true q9
                    have p12 : 0 ≤ (x17_1 : Int) := of_decide_eq_true (by first | (with_reducible assumption) | assumption)
                    have q12 : x17_1 < (a2.size : Int) := of_decide_eq_true (by first | (with_reducible assumption) | assumption)
                    have hx12 := bt_at a2 x17_1
                    replace p12 := eq_true p12
                    replace q12 := eq_true q12
                    go_wp2
                    repeat (go_quiet (fail); try go_wp2)
                    go_ret
                    exact ⟨by first | rfl | (simp; done) | (simp only [← hji6] <;> (first | rfl | simp)) | (simp [*]; done), by repeat (first | exact Drawn0.refl _ | apply Drawn0.step)⟩
                · rw [if_neg c11] at H
                  exact absurd H (by simp)
              · rw [if_neg c10] at H
                exact absurd H (by simp)
            · rw [if_neg c8] at H
              exact absurd H (by simp)
          · rw [if_neg c7] at H
            exact absurd H (by simp)
        · rw [if_neg c5] at H
          have c5b0 : decide (x17_1 < (a2.size : Int)) = false := decide_eq_false c5
          clear c5
          obtain rfl := Option.some.inj H
          go_wp2
          repeat (go_quiet (fail); try go_wp2)
          go_ret
          exact ⟨by first | rfl | (simp; done) | (simp [*]; done), by repeat (first | exact Drawn0.refl _ | apply Drawn0.step)⟩

end Go.Proofs.YtnnoegjgaelafaaDoor.Nu
namespace Go.Proofs.YtnnoegjgaelafaaDoor
open Go.RowKit Go.Great Go.Proofs.YtnnoegjgaelafaaDoorW.PrintWords Go.Proofs.YtnnoegjgaelafaaDoorW.PrintLast
set_option linter.unusedVariables false
set_option linter.unusedSimpArgs false

def grpCells : Array Value := #[.int .u8 57, .int .i64 10, .int .u8 90, .int .i64 26, .int .u8 122, .int .i64 26, .int .u8 126, .int .i64 1]
def monL : List ByteArray := [⟨#[106, 97, 110]⟩, ⟨#[102, 101, 98]⟩, ⟨#[109, 97, 114]⟩, ⟨#[97, 112, 114]⟩, ⟨#[109, 97, 121]⟩, ⟨#[106, 117, 110]⟩, ⟨#[106, 117, 108]⟩, ⟨#[97, 117, 103]⟩, ⟨#[115, 101, 112]⟩, ⟨#[111, 99, 116]⟩, ⟨#[110, 111, 118]⟩, ⟨#[100, 101, 99]⟩]
def monS (i : Nat) : ByteArray := monL.getD i ByteArray.empty
structure GTab (w : World) : Prop where
  mons : ∃ t fz, w.heap[1]? = some (.cells (monL.map Value.string).toArray t fz)
  grps : ∃ t fz, w.heap[2]? = some (.cells grpCells t fz)
theorem lt_of_some {w : World} {g : Nat} {o : Obj} (h : w.heap[g]? = some o) : g < w.heap.size := by
  rcases Nat.lt_or_ge g w.heap.size with h2 | h2
  · exact h2
  · rw [Array.getElem?_eq_none h2] at h; simp at h
theorem GTab.stay {W W1 : World} (hb : Below W.heap.size W W1) (h : GTab W) : GTab W1 := by
  obtain ⟨⟨t1, f1, h1⟩, ⟨t2, f2, h2⟩⟩ := h
  exact ⟨⟨t1, f1, (hb.block 1 (lt_of_some h1)).trans h1⟩, ⟨t2, f2, (hb.block 2 (lt_of_some h2)).trans h2⟩⟩
theorem GTab.mon {W : World} (h : GTab W) (i : Nat) (hi : i < 12) : W.cell? ⟨1, i, none⟩ = some (.string (monS i)) := by
  obtain ⟨t1, f1, h1⟩ := h.mons
  rw [cell_of_row W 1 i _ t1 f1 h1]
  have hl : monL.length = 12 := rfl
  simp [monS, hl, hi, List.getD_eq_getElem?_getD]

def grpR (c : Int) : Nat → Int
  | 0 => c + 55
  | k + 1 => if c > [57, 90, 122, 126].getD k 0 then grpR c k - [10, 26, 26, 1].getD k 0 else grpR c k
theorem grpR_bounds (c : Int) (h0 : 0 ≤ c) (h1 : c < 256) : ∀ k, k ≤ 4 → c + 55 - 26 * k ≤ grpR c k ∧ grpR c k ≤ c + 55
  | 0, _ => by simp [grpR]
  | k + 1, hk => by
    have ih := grpR_bounds c h0 h1 k (by omega)
    have hm : 0 ≤ [(10 : Int), 26, 26, 1].getD k 0 ∧ [(10 : Int), 26, 26, 1].getD k 0 ≤ 26 := by
      rcases (show k = 0 ∨ k = 1 ∨ k = 2 ∨ k = 3 by omega) with rfl | rfl | rfl | rfl <;> decide
    unfold grpR
    generalize [(10 : Int), 26, 26, 1].getD k 0 = m at *
    generalize grpR c k = x at *
    split <;> omega
theorem grpR_step (c : Int) (k : Nat) (l m : Int) (hl : [(57 : Int), 90, 122, 126].getD k 0 = l) (hm : [(10 : Int), 26, 26, 1].getD k 0 = m) : grpR c (k + 1) = if l < c then grpR c k - m else grpR c k := by
  subst hl; subst hm; rfl
def rankI (c : Int) : Int := if c = 126 then 1 else if 65 ≤ c ∧ c ≤ 90 then c - 62 else if 97 ≤ c ∧ c ≤ 122 then c - 68 else grpR c 4
theorem info149 : (Tryd.prog.info? 149).map (·.size) = some 2 := by kernel_rfl
theorem run_grp (k : Nat) (hk : k < 4) (W : World) : (Instr.index 150 (.agg grpCells) (.int .i64 (k : Int))).run Tryd.prog W = .ok (.agg #[.int .u8 ([(57 : Int), 90, 122, 126].getD k 0), .int .i64 ([(10 : Int), 26, 26, 1].getD k 0)]) W := by
  have hi := info149
  cases hq : Tryd.prog.info? 149 with
  | none => rw [hq] at hi; simp at hi
  | some i =>
    rw [hq] at hi
    have hs : i.size = 2 := by simpa using hi
    have hagg : ∀ W, (isAgg 149).run Tryd.prog W = .ok true W := fun W => by unfold isAgg; rw [Sem.run_bind, run_underlying Tryd.underlying149 W]; rfl
    rcases (show k = 0 ∨ k = 1 ∨ k = 2 ∨ k = 3 by omega) with rfl | rfl | rfl | rfl
    all_goals simp [Instr.index, asIntOf, run_underlying Tryd.underlying150, sizeOf, typeInfo, hq, hs, part, grpCells, hagg]
attribute [local irreducible] wpList Code.wp grpCells
set_option maxRecDepth 100000 in
set_option maxHeartbeats 4000000 in
theorem rank_calls (c : Nat) (hc : c < 256) (w : World) (hG : GTab w) :
    Calls Tryd.prog 89 #[.int .u8 (c : Int)] w fun e w' => e = .returned (.int .u8 (rankI c)) ∧ Below w.heap.size w w' := by
  obtain ⟨t2, f2, hg⟩ := hG.grps
  have hu := Tryd.underlying150
  clear hG
  by_cases h1 : (c : Int) = 126
  · have e : rankI c = 1 := by unfold rankI; rw [if_pos h1]
    have b1 : decide ((c : Int) = 126) = true := decide_eq_true h1
    have b1' : ((c : Int) == 126) = true := beq_iff_eq.mpr h1
    rw [e]
    go_enter Tryd.func89, Tryd.ntmps89
    go_wp2
    go_ret
    exact ⟨rfl, Below.refl _ _⟩
  · by_cases h2 : 65 ≤ (c : Int) ∧ (c : Int) ≤ 90
    · have e : rankI c = ((c : Int) - 65 + 3) := by unfold rankI; rw [if_neg h1, if_pos h2]; omega
      have b1 : decide ((c : Int) = 126) = false := decide_eq_false h1
      have b1' : ((c : Int) == 126) = false := beq_eq_false_iff_ne.mpr h1
      have b2 : decide (65 ≤ (c : Int)) = true := decide_eq_true h2.1
      have b3 : decide ((c : Int) ≤ 90) = true := decide_eq_true h2.2
      have hm1 : ((c : Int) - 65) % 256 = (c : Int) - 65 := by omega
      have hm2 : ((c : Int) - 65 + 3) % 256 = (c : Int) - 65 + 3 := by omega
      rw [e]
      clear hg
      go_enter Tryd.func89, Tryd.ntmps89
      go_wp2
      go_ret
      exact ⟨by first | rfl | (simp; done) | (simp [hm1, hm2]; done), Below.refl _ _⟩
    · by_cases h3 : 97 ≤ (c : Int) ∧ (c : Int) ≤ 122
      · have e : rankI c = ((c : Int) - 97 + 29) := by unfold rankI; rw [if_neg h1, if_neg h2, if_pos h3]; omega
        have b1 : decide ((c : Int) = 126) = false := decide_eq_false h1
        have b1' : ((c : Int) == 126) = false := beq_eq_false_iff_ne.mpr h1
        have b2 : decide (65 ≤ (c : Int)) = true := decide_eq_true (by omega)
        have b3 : decide ((c : Int) ≤ 90) = false := decide_eq_false (by omega)
        have b4 : decide (97 ≤ (c : Int)) = true := decide_eq_true h3.1
        have b5 : decide ((c : Int) ≤ 122) = true := decide_eq_true h3.2
        have hm1 : ((c : Int) - 97) % 256 = (c : Int) - 97 := by omega
        have hm2 : ((c : Int) - 97 + 29) % 256 = (c : Int) - 97 + 29 := by omega
        rw [e]
        clear hg
        go_enter Tryd.func89, Tryd.ntmps89
        go_wp2
        go_ret
        exact ⟨by first | rfl | (simp; done) | (simp [hm1, hm2]; done), Below.refl _ _⟩
      · have e : rankI c = grpR c 4 := by unfold rankI; rw [if_neg h1, if_neg h2, if_neg h3]
        have hrng : 0 ≤ grpR c 4 ∧ grpR c 4 < 256 := by
          simp only [grpR, List.getD_eq_getElem?_getD]
          simp
          repeat' split
          all_goals omega
        have b1 : decide ((c : Int) = 126) = false := decide_eq_false h1
        have b1' : ((c : Int) == 126) = false := beq_eq_false_iff_ne.mpr h1
        rw [e]
        have HB0 : Aside0 (Below w.heap.size w w) := ⟨Below.refl _ _⟩
        have HR := Aside0.mk hrng
        have hq : ((c : Int) < 65) ∨ (65 ≤ (c : Int) ∧ 90 < (c : Int) ∧ (c : Int) < 97) ∨ (65 ≤ (c : Int) ∧ 90 < (c : Int) ∧ 97 ≤ (c : Int) ∧ 122 < (c : Int)) := by omega
        clear hrng e h1 h2 h3
        rcases hq with hq | ⟨hq1, hq2, hq3⟩ | ⟨hq1, hq2, hq3, hq4⟩
        all_goals
          go_enter Tryd.func89, Tryd.ntmps89
          go_upto_region 8 with (fail)
          go_wp2_with (first
            | (refine wpList_load_row rfl 150 _ rfl 2 rfl t2 grpCells f2 _ hg hu rfl (by as_aux_lemma => kernel_rfl) ?_))
          go_loopw [3, 33] (fun v3 v33 wr => ∃ k : Nat, v33 = .int .i64 k ∧ k ≤ 4 ∧ v3 = .int .i64 (grpR c k) ∧ Aside0 (Below w.heap.size w wr)) (fun _ v _ => 4 - (intOf v).toNat)
          case atStart => exact ⟨0, rfl, Nat.zero_le _, rfl, HB0⟩
          case round =>
            obtain ⟨k, rfl, hk, rfl, HB⟩ := hrel
            by_cases hlt : k < 4
            · have hb := grpR_bounds c (by omega) (by omega) k hk
              have hm : 0 ≤ [(10 : Int), 26, 26, 1].getD k 0 ∧ [(10 : Int), 26, 26, 1].getD k 0 ≤ 26 := by
                rcases (show k = 0 ∨ k = 1 ∨ k = 2 ∨ k = 3 by omega) with rfl | rfl | rfl | rfl <;> decide
              have hs := grpR_step c k _ _ rfl rfl
              have hix := run_grp k hlt
              generalize [(57 : Int), 90, 122, 126].getD k 0 = l at *
              generalize [(10 : Int), 26, 26, 1].getD k 0 = m at *
              generalize grpR c k = x at *
              have HLT := Aside0.mk hlt
              have HS : Aside0 (grpR c (k + 1) = if l < (c : Int) then x - m else x) := ⟨hs⟩
              clear hs
              have hd : decide ((k : Int) < 4) = true := decide_eq_true (by omega)
              by_cases hc2 : l < (c : Int)
              · have HS2 := Aside0.mk (HS.out.trans (if_pos hc2))
                have hd2 := decide_eq_true hc2
                clear HS
                go_wp2
                exact ⟨⟨k + 1, by go_num, HLT.out, by rw [HS2.out], ⟨by repeat (first | exact HB.out | apply below_alloc | apply pw_below_drewN | apply below_drew1)⟩⟩, by simp [intOf]; omega⟩
              · have HS2 := Aside0.mk (HS.out.trans (if_neg hc2))
                have hd2 := decide_eq_false hc2
                clear HS
                go_wp2
                exact ⟨⟨k + 1, by go_num, HLT.out, by rw [HS2.out], ⟨by repeat (first | exact HB.out | apply below_alloc | apply pw_below_drewN | apply below_drew1)⟩⟩, by simp [intOf]; omega⟩
            · have h4 : k = 4 := by omega
              have hd : decide ((k : Int) < 4) = false := decide_eq_false (by omega)
              rw [h4]
              clear h4 hlt hk
              have hr := HR.out
              obtain ⟨x, hx⟩ : ∃ x, grpR c 4 = x := ⟨_, rfl⟩
              rw [hx] at hr ⊢
              have HX := Aside0.mk hx
              clear hx HR
              have hm : x % 256 = x := by omega
              go_wp2
              go_ret
              exact ⟨by rw [HX.out]; first | rfl | (simp [hm]; done), HB.out⟩
def numeral_rank.f (a0 : Int) : Option Int := if 0 ≤ a0 ∧ a0 < 256 then some (rankI a0) else none
theorem numeral_rank.calls (a0 : Int) (r : Int) (w : World) (h : numeral_rank.f a0 = some r) (hG : GTab w) :
    Calls Tryd.prog 89 #[.int .u8 a0] w fun e w' => e = .returned (.int .u8 r) ∧ Below w.heap.size w w' := by
  unfold numeral_rank.f at h
  by_cases hc : 0 ≤ a0 ∧ a0 < 256
  · rw [if_pos hc] at h
    obtain rfl := Option.some.inj h
    obtain ⟨n, rfl⟩ := Int.eq_ofNat_of_zero_le hc.1
    exact rank_calls n (by omega) w hG
  · rw [if_neg hc] at h; exact absurd h (by simp)
end Go.Proofs.YtnnoegjgaelafaaDoor
namespace Go.Proofs.YtnnoegjgaelafaaDoor.Nu
open Go.RowKit Go.Proofs.YtnnoegjgaelafaaDoorW.PrintWords Go.Proofs.YtnnoegjgaelafaaDoorW.PrintLast Go.Proofs.YtnnoegjgaelafaaDoorW.PrintMore
attribute [local go_sem] max2_int min2_int max_two min_two max_three min_three max_four min_four   -- for this text's walks alone
set_option linter.unusedVariables false
set_option linter.unusedSimpArgs false

def numeral_digits.f (a0 : ByteArray) (a1 : ByteArray) (a2 : Int) : Option (ByteArray × Int) := (strings_TrimLeft.f a0 (⟨#[48]⟩ : ByteArray)).bind fun t138 => (if t138.toList = ([] : List UInt8) then ((strings_TrimLeft.f a1 (⟨#[48]⟩ : ByteArray)).bind fun t139 => ((strings_TrimRight.f t139 (⟨#[48]⟩ : ByteArray)).bind fun t140 => (if t140.toList = ([] : List UInt8) then (some ((⟨#[]⟩ : ByteArray), 0)) else (some (t140, wrap64 ((wrap64 ((t139.size : Int) - (a1.size : Int))) + a2)))))) else (if t138.size + a1.size ≤ 9223372036854775807 then ((strings_TrimRight.f (t138 ++ a1) (⟨#[48]⟩ : ByteArray)).bind fun t141 => (if t141.toList = ([] : List UInt8) then (some ((⟨#[]⟩ : ByteArray), 0)) else (some (t141, wrap64 ((t138.size : Int) + a2))))) else (none)))
set_option maxHeartbeats 8000000 in
set_option maxRecDepth 100000 in
theorem numeral_digits.calls (a0 : ByteArray) (a1 : ByteArray) (a2 : Int) (r1 : ByteArray) (r2 : Int) (w : World) (h : numeral_digits.f a0 a1 a2 = some (r1, r2)) :
    Calls Tryd.prog 83 #[.string a0, .string a1, .int .i64 a2] w fun e w' => e = .returned (.tuple #[.string r1, .int .i64 r2]) ∧ Drawn0 w w' := by
  have H : ((strings_TrimLeft.f a0 (⟨#[48]⟩ : ByteArray)).bind fun t138 => (if t138.toList = ([] : List UInt8) then ((strings_TrimLeft.f a1 (⟨#[48]⟩ : ByteArray)).bind fun t139 => ((strings_TrimRight.f t139 (⟨#[48]⟩ : ByteArray)).bind fun t140 => (if t140.toList = ([] : List UInt8) then (some ((⟨#[]⟩ : ByteArray), 0)) else (some (t140, wrap64 ((wrap64 ((t139.size : Int) - (a1.size : Int))) + a2)))))) else (if t138.size + a1.size ≤ 9223372036854775807 then ((strings_TrimRight.f (t138 ++ a1) (⟨#[48]⟩ : ByteArray)).bind fun t141 => (if t141.toList = ([] : List UInt8) then (some ((⟨#[]⟩ : ByteArray), 0)) else (some (t141, wrap64 ((t138.size : Int) + a2))))) else (none)))) = some (r1, r2) := h
  clear h
  replace H := Option.bind_eq_some_iff.mp H
  obtain ⟨t138, A40, H⟩ := H
  replace H : (if t138.toList = ([] : List UInt8) then ((strings_TrimLeft.f a1 (⟨#[48]⟩ : ByteArray)).bind fun t139 => ((strings_TrimRight.f t139 (⟨#[48]⟩ : ByteArray)).bind fun t140 => (if t140.toList = ([] : List UInt8) then (some ((⟨#[]⟩ : ByteArray), 0)) else (some (t140, wrap64 ((wrap64 ((t139.size : Int) - (a1.size : Int))) + a2)))))) else (if t138.size + a1.size ≤ 9223372036854775807 then ((strings_TrimRight.f (t138 ++ a1) (⟨#[48]⟩ : ByteArray)).bind fun t141 => (if t141.toList = ([] : List UInt8) then (some ((⟨#[]⟩ : ByteArray), 0)) else (some (t141, wrap64 ((t138.size : Int) + a2))))) else (none))) = some (r1, r2) := H
  have A4 := Aside0.mk A40
  clear A40
  by_cases c5 : t138.toList = ([] : List UInt8)
  · rw [if_pos c5] at H
    have c5b0 : (t138.toList == ([] : List UInt8)) = true := beq_iff_eq.mpr c5
    have c5b1 : (t138.toList != ([] : List UInt8)) = false := bne_eq_false_iff_eq.mpr c5
    clear c5
    replace H := Option.bind_eq_some_iff.mp H
    obtain ⟨t139, A60, H⟩ := H
    replace H : ((strings_TrimRight.f t139 (⟨#[48]⟩ : ByteArray)).bind fun t140 => (if t140.toList = ([] : List UInt8) then (some ((⟨#[]⟩ : ByteArray), 0)) else (some (t140, wrap64 ((wrap64 ((t139.size : Int) - (a1.size : Int))) + a2))))) = some (r1, r2) := H
    have A6 := Aside0.mk A60
    clear A60
    replace H := Option.bind_eq_some_iff.mp H
    obtain ⟨t140, A70, H⟩ := H
    replace H : (if t140.toList = ([] : List UInt8) then (some ((⟨#[]⟩ : ByteArray), 0)) else (some (t140, wrap64 ((wrap64 ((t139.size : Int) - (a1.size : Int))) + a2)))) = some (r1, r2) := H
    have A7 := Aside0.mk A70
    clear A70
    by_cases c8 : t140.toList = ([] : List UInt8)
    · rw [if_pos c8] at H
      have c8b0 : (t140.toList == ([] : List UInt8)) = true := beq_iff_eq.mpr c8
      have c8b1 : (t140.toList != ([] : List UInt8)) = false := bne_eq_false_iff_eq.mpr c8
      clear c8
      simp only [Option.some.injEq, Prod.mk.injEq] at H
      obtain ⟨rfl, rfl⟩ := H
      go_enter Tryd.func83, Tryd.ntmps83
      go_wp2_with (first | ((with_reducible refine gate_callee (f := 90) rfl ?_); refine goesL_ (some 12) rfl rfl Tryd.func90 (by kernel_rfl) rfl #[.string a0, .string (⟨#[48]⟩ : ByteArray)] rfl (by (try simp only [List.map_toArray, List.map_cons, List.map_nil]); first | done | rfl | (simp only [List.length_drop, List.length_take]; rfl)) ?_; (with_reducible refine (strings_TrimLeft.calls a0 (⟨#[48]⟩ : ByteArray) t138 _ A4.out).mono ?_); rintro e w' ⟨rfl, ⟨nd, rfl⟩⟩; refine ⟨_, rfl, ?_⟩) | ((with_reducible refine gate_callee (f := 90) rfl ?_); refine goesL_ (some 18) rfl rfl Tryd.func90 (by kernel_rfl) rfl #[.string a1, .string (⟨#[48]⟩ : ByteArray)] rfl (by (try simp only [List.map_toArray, List.map_cons, List.map_nil]); first | done | rfl | (simp only [List.length_drop, List.length_take]; rfl)) ?_; (with_reducible refine (strings_TrimLeft.calls a1 (⟨#[48]⟩ : ByteArray) t139 _ A6.out).mono ?_); rintro e w' ⟨rfl, ⟨nd, rfl⟩⟩; refine ⟨_, rfl, ?_⟩) | ((with_reducible refine gate_callee (f := 101) rfl ?_); refine goesL_ (some 29) rfl rfl Tryd.func101 (by kernel_rfl) rfl #[.string t139, .string (⟨#[48]⟩ : ByteArray)] rfl (by (try simp only [List.map_toArray, List.map_cons, List.map_nil]); first | done | rfl | (simp only [List.length_drop, List.length_take]; rfl)) ?_; (with_reducible refine (strings_TrimRight.calls t139 (⟨#[48]⟩ : ByteArray) t140 _ A7.out).mono ?_); rintro e w' ⟨rfl, ⟨nd, rfl⟩⟩; refine ⟨_, rfl, ?_⟩))
      go_ret2
      exact ⟨by first | rfl | (simp; done) | (simp [*]; done), by repeat (first | exact Drawn0.refl _ | apply Drawn0.step)⟩
    · rw [if_neg c8] at H
      have c8b0 : (t140.toList == ([] : List UInt8)) = false := beq_eq_false_iff_ne.mpr c8
      have c8b1 : (t140.toList != ([] : List UInt8)) = true := bne_iff_ne.mpr c8
      simp only [Option.some.injEq, Prod.mk.injEq] at H
      obtain ⟨rfl, rfl⟩ := H
      go_enter Tryd.func83, Tryd.ntmps83
      go_wp2_with (first | ((with_reducible refine gate_callee (f := 90) rfl ?_); refine goesL_ (some 12) rfl rfl Tryd.func90 (by kernel_rfl) rfl #[.string a0, .string (⟨#[48]⟩ : ByteArray)] rfl (by (try simp only [List.map_toArray, List.map_cons, List.map_nil]); first | done | rfl | (simp only [List.length_drop, List.length_take]; rfl)) ?_; (with_reducible refine (strings_TrimLeft.calls a0 (⟨#[48]⟩ : ByteArray) t138 _ A4.out).mono ?_); rintro e w' ⟨rfl, ⟨nd, rfl⟩⟩; refine ⟨_, rfl, ?_⟩) | ((with_reducible refine gate_callee (f := 90) rfl ?_); refine goesL_ (some 18) rfl rfl Tryd.func90 (by kernel_rfl) rfl #[.string a1, .string (⟨#[48]⟩ : ByteArray)] rfl (by (try simp only [List.map_toArray, List.map_cons, List.map_nil]); first | done | rfl | (simp only [List.length_drop, List.length_take]; rfl)) ?_; (with_reducible refine (strings_TrimLeft.calls a1 (⟨#[48]⟩ : ByteArray) t139 _ A6.out).mono ?_); rintro e w' ⟨rfl, ⟨nd, rfl⟩⟩; refine ⟨_, rfl, ?_⟩) | ((with_reducible refine gate_callee (f := 101) rfl ?_); refine goesL_ (some 29) rfl rfl Tryd.func101 (by kernel_rfl) rfl #[.string t139, .string (⟨#[48]⟩ : ByteArray)] rfl (by (try simp only [List.map_toArray, List.map_cons, List.map_nil]); first | done | rfl | (simp only [List.length_drop, List.length_take]; rfl)) ?_; (with_reducible refine (strings_TrimRight.calls t139 (⟨#[48]⟩ : ByteArray) t140 _ A7.out).mono ?_); rintro e w' ⟨rfl, ⟨nd, rfl⟩⟩; refine ⟨_, rfl, ?_⟩))
      go_ret2
      exact ⟨by first | rfl | (simp; done) | (simp [*]; done), by repeat (first | exact Drawn0.refl _ | apply Drawn0.step)⟩
  · rw [if_neg c5] at H
    have c5b0 : (t138.toList == ([] : List UInt8)) = false := beq_eq_false_iff_ne.mpr c5
    have c5b1 : (t138.toList != ([] : List UInt8)) = true := bne_iff_ne.mpr c5
    by_cases c9 : t138.size + a1.size ≤ 9223372036854775807
    · rw [if_pos c9] at H
      have c9b0 := eq_true c9
      have c9b1 : decide (t138.size + a1.size ≤ 9223372036854775807) = true := decide_eq_true c9
      try have c9b2 : (9223372036854775807 < t138.size + a1.size) = False := eq_false (Nat.not_lt.2 c9)
      replace H := Option.bind_eq_some_iff.mp H
      obtain ⟨t141, A100, H⟩ := H
      replace H : (if t141.toList = ([] : List UInt8) then (some ((⟨#[]⟩ : ByteArray), 0)) else (some (t141, wrap64 ((t138.size : Int) + a2)))) = some (r1, r2) := H
      have A10 := Aside0.mk A100
      clear A100
      by_cases c11 : t141.toList = ([] : List UInt8)
      · rw [if_pos c11] at H
        have c11b0 : (t141.toList == ([] : List UInt8)) = true := beq_iff_eq.mpr c11
        have c11b1 : (t141.toList != ([] : List UInt8)) = false := bne_eq_false_iff_eq.mpr c11
        clear c11
        simp only [Option.some.injEq, Prod.mk.injEq] at H
        obtain ⟨rfl, rfl⟩ := H
        go_enter Tryd.func83, Tryd.ntmps83
        go_wp2_with (first | ((with_reducible refine gate_callee (f := 90) rfl ?_); refine goesL_ (some 12) rfl rfl Tryd.func90 (by kernel_rfl) rfl #[.string a0, .string (⟨#[48]⟩ : ByteArray)] rfl (by (try simp only [List.map_toArray, List.map_cons, List.map_nil]); first | done | rfl | (simp only [List.length_drop, List.length_take]; rfl)) ?_; (with_reducible refine (strings_TrimLeft.calls a0 (⟨#[48]⟩ : ByteArray) t138 _ A4.out).mono ?_); rintro e w' ⟨rfl, ⟨nd, rfl⟩⟩; refine ⟨_, rfl, ?_⟩) | ((with_reducible refine gate_callee (f := 101) rfl ?_); refine goesL_ (some 29) rfl rfl Tryd.func101 (by kernel_rfl) rfl #[.string (t138 ++ a1), .string (⟨#[48]⟩ : ByteArray)] rfl (by (try simp only [List.map_toArray, List.map_cons, List.map_nil]); first | done | rfl | (simp only [List.length_drop, List.length_take]; rfl)) ?_; (with_reducible refine (strings_TrimRight.calls (t138 ++ a1) (⟨#[48]⟩ : ByteArray) t141 _ A10.out).mono ?_); rintro e w' ⟨rfl, ⟨nd, rfl⟩⟩; refine ⟨_, rfl, ?_⟩))
        go_ret2
        exact ⟨by first | rfl | (simp; done) | (simp [*]; done), by repeat (first | exact Drawn0.refl _ | apply Drawn0.step)⟩
      · rw [if_neg c11] at H
        have c11b0 : (t141.toList == ([] : List UInt8)) = false := beq_eq_false_iff_ne.mpr c11
        have c11b1 : (t141.toList != ([] : List UInt8)) = true := bne_iff_ne.mpr c11
        simp only [Option.some.injEq, Prod.mk.injEq] at H
        obtain ⟨rfl, rfl⟩ := H
        go_enter Tryd.func83, Tryd.ntmps83
        go_wp2_with (first | ((with_reducible refine gate_callee (f := 90) rfl ?_); refine goesL_ (some 12) rfl rfl Tryd.func90 (by kernel_rfl) rfl #[.string a0, .string (⟨#[48]⟩ : ByteArray)] rfl (by (try simp only [List.map_toArray, List.map_cons, List.map_nil]); first | done | rfl | (simp only [List.length_drop, List.length_take]; rfl)) ?_; (with_reducible refine (strings_TrimLeft.calls a0 (⟨#[48]⟩ : ByteArray) t138 _ A4.out).mono ?_); rintro e w' ⟨rfl, ⟨nd, rfl⟩⟩; refine ⟨_, rfl, ?_⟩) | ((with_reducible refine gate_callee (f := 101) rfl ?_); refine goesL_ (some 29) rfl rfl Tryd.func101 (by kernel_rfl) rfl #[.string (t138 ++ a1), .string (⟨#[48]⟩ : ByteArray)] rfl (by (try simp only [List.map_toArray, List.map_cons, List.map_nil]); first | done | rfl | (simp only [List.length_drop, List.length_take]; rfl)) ?_; (with_reducible refine (strings_TrimRight.calls (t138 ++ a1) (⟨#[48]⟩ : ByteArray) t141 _ A10.out).mono ?_); rintro e w' ⟨rfl, ⟨nd, rfl⟩⟩; refine ⟨_, rfl, ?_⟩))
        go_ret2
        exact ⟨by first | rfl | (simp; done) | (simp [*]; done), by repeat (first | exact Drawn0.refl _ | apply Drawn0.step)⟩
    · rw [if_neg c9] at H
      exact absurd H (by simp)

end Go.Proofs.YtnnoegjgaelafaaDoor.Nu
