/- The law's 'may': an order of options that may be. -/
import Derived.Test.YtnnoegjgaelafaaDoorMade
namespace Go.Proofs.YtnnoegjgaelafaaDoor.Pr
open Go.RowKit Go.Proofs.YtnnoegjgaelafaaDoorW.PrintWords Go.Proofs.YtnnoegjgaelafaaDoorW.PrintLast
set_option linter.unusedVariables false
set_option linter.unusedSimpArgs false

set_option maxHeartbeats 8000000 in
set_option maxRecDepth 100000 in
theorem may_calls (A0 : Option Addr) (c0 : Nat) (l0 : List Ky) (m t : Int) (st un : Bool) (r : Rest) (w : World) (hr0 : Kd.C k33 w A0 l0.length l0) (hc0 : l0.length ≤ c0) (hl : l0.length ≤ 1000000) (mn : Nat) (hm : m = (mn : Int)) (hm2 : mn < 65536) (hk : ∀ k ∈ l0, ∃ n : Nat, k.f4 = (n : Int) ∧ n < 65536) :
    Calls Tryd.prog 19 #[.agg (optVal (.slice A0 l0.length c0) m t st un r)] w (OrddPost w l0 m t st un) := by
  have hu := Tryd.underlying28
  have HU := Aside0.mk hu
  have HC := Aside0.mk (fun (W : World) (hb : Below w.heap.size w W) => check_calls A0 c0 l0 m t st un r W (Kd.C_below hr0 hb) hc0 hl mn hm hm2 hk)
  have HX := Aside0.mk (fun (W : World) => milllaw5_num.calls 0 0 W rfl)
  have HS := Aside0.mk (opt_size A0 l0.length c0 m t st un r)
  cases hq : chkB l0 m t
  · rw [chkN_bad hq] at HC
    have HQ := Aside0.mk hq
    clear hq hr0 hm hk
    generalize optVal (.slice A0 l0.length c0) m t st un r = cs at HC HS ⊢
    go_enter Tryd.func19, Tryd.ntmps19
    go_wp2_with (first
      | (refine box_event rfl (N := 1) rfl (cs := cs) (t := 28) (box_opts _ _ _ rfl cs rfl _) ?_; intro g hg W0 hz0 hb0; have HZ := Aside0.mk hz0; have HB := Aside0.mk hb0; clear hz0 hb0 hg)
      | (refine wpList_load_row rfl 28 _ rfl g rfl 28 cs (0, 0) _ HZ.out HU.out rfl HS.out ?_)
      | (go_at_call 31; refine Calls.mono (HC.out _ HB.out) ?_; rintro e w2 ⟨rfl, hb⟩; replace HB := Aside0.mk (bstep HB.out hb); clear hb HC HZ))
    go_ret2
    exact .inl ⟨HQ.out, rfl, HB.out⟩
  · rw [chkN_good hq] at HC
    have HN := Aside0.mk (fun (W : World) (hb : Below w.heap.size w W) => (new_calls A0 c0 l0 m t st un r W (Kd.C_below hr0 hb) hc0 hl mn hm hm2 hk).mono (R' := fun e w' => ∃ g, e = .returned (.tuple #[.pointer (some ⟨g, 0, none⟩), .int .i64 0]) ∧ Made W l0 m t st un g w') (fun e w' h => h.elim (fun h => by rw [hq] at h; exact absurd h.1 (by simp)) (fun h => h.2)))
    have HQ := Aside0.mk hq
    clear hq hr0 hm hk
    generalize optVal (.slice A0 l0.length c0) m t st un r = cs at HC HN HS ⊢
    go_enter Tryd.func19, Tryd.ntmps19
    go_wp2_with (first
      | (refine box_event rfl (N := 1) rfl (cs := cs) (t := 28) (box_opts _ _ _ rfl cs rfl _) ?_; intro g hg W0 hz0 hb0; have HZ := Aside0.mk hz0; have HB := Aside0.mk hb0; clear hz0 hb0 hg)
      | (refine wpList_load_row rfl 28 _ rfl g rfl 28 cs (0, 0) _ HZ.out HU.out rfl HS.out ?_)
      | (go_at_call 31; refine Calls.mono (HC.out _ HB.out) ?_; rintro e w2 ⟨rfl, hb⟩; replace HZ := Aside0.mk ((hb.block _ (blk_lt HZ.out)).trans HZ.out); replace HB := Aside0.mk (bstep HB.out hb); clear hb HC)
      | (go_at_call 29; refine Calls.mono (HN.out _ HB.out) ?_; rintro e w1 ⟨g', rfl, ho, hg, hb⟩; have HO1 := Aside0.mk ho; have HG1 := Aside0.mk (Nat.lt_of_le_of_lt HB.out.size hg); replace HB := Aside0.mk (bstep HB.out hb); clear hb ho hg HN)
      | (go_at_call 30; refine Calls.mono (HX.out _) ?_; rintro e w3 ⟨rfl, ⟨nq, rfl⟩⟩))
    go_ret2
    refine .inr ⟨HQ.out, _, rfl, ?_, HG1.out, pw_below_drewN HB.out _⟩
    exact HO1.out.below (pw_below_drewN (Below.refl _ _) _)
end Go.Proofs.YtnnoegjgaelafaaDoor.Pr
