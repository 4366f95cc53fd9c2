/-
  The walk of the statement RoundingMirrors: it returns true, for every argument.
-/
import Derived.Test.YtieklkpjlbpnbaaDoorLRd0
import Derived.Test.YtieklkpjlbpnbaaDoorRdn
namespace Go.Proofs.YtieklkpjlbpnbaaDoor.Sp
open Go.RowKit
open Go.Proofs.YtieklkpjlbpnbaaDoor
open Go.Proofs.YtieklkpjlbpnbaaDoor.Wm Go.Proofs.YtieklkpjlbpnbaaDoor.Wt Go.Proofs.YtieklkpjlbpnbaaDoor.Rd

/-- What two mirrored quotients may be. -/
def Mirr (v c u d : Int) : Prop := (c = 0 ∧ d = 0 ∧ v = -u ∧ -9223372036854775807 ≤ u ∧ u ≤ 9223372036854775807) ∨ (c = 6 ∧ d = 6) ∨ (c = 0 ∧ v = -9223372036854775808 ∧ d = 6) ∨ (d = 0 ∧ u = -9223372036854775808 ∧ c = 6)
theorem mirr_all {x n m : Int} (h : rok n m) : Mirr (rdV x n m) (rdE x n m) (rdV (-x) n (mirr m)) (rdE (-x) n (mirr m)) := by
  have hk2 : rok n (mirr m) := by
    obtain ⟨h1, h2, h3⟩ := h
    unfold mirr
    refine ⟨h1, ?_, ?_⟩ <;> split <;> (try split) <;> omega
  have hm := rd_mirror (a := x) h.1 h.2.1 h.2.2
  rw [(rd_yes h).1, (rd_yes h).2, (rd_yes hk2).1, (rd_yes hk2).2, hm]
  generalize rd x n m = q
  unfold Mirr ifit iin
  by_cases h1 : I64 q
  · by_cases h2 : I64 (-q)
    · rw [if_pos h1, if_pos h2, decide_eq_true h1, decide_eq_true h2]
      unfold I64 at h1 h2
      exact .inl ⟨rfl, rfl, by omega, by omega, by omega⟩
    · rw [if_pos h1, if_neg h2, decide_eq_true h1, decide_eq_false h2]
      unfold I64 at h1 h2
      exact .inr (.inr (.inl ⟨rfl, by omega, rfl⟩))
  · by_cases h2 : I64 (-q)
    · rw [if_neg h1, if_pos h2, decide_eq_false h1, decide_eq_true h2]
      unfold I64 at h1 h2
      exact .inr (.inr (.inr ⟨rfl, by omega, rfl⟩))
    · rw [if_neg h1, if_neg h2, decide_eq_false h1, decide_eq_false h2]
      exact .inr (.inl ⟨rfl, rfl⟩)
set_option maxHeartbeats 8000000 in
theorem mirrors_f (x n m v c u d : Int) (w : World) (hS : Stp w) (hx : I128 x) (hx2 : I128 (-x)) (hn : 1 ≤ n) (hm1 : 1 ≤ m) (hm6 : m ≤ 6) (hmode : m = 3) (hR : Mirr v c u d)
    (h1 : ∀ W, Stp W → Calls Tryd.prog 11 #[.agg #[.int .i64 (hi x), .int .u64 (lo x)], .int .i64 n, .int .i64 m] W fun e w' => e = .returned (.tuple #[.int .i64 v, .int .i64 c]) ∧ Below W.heap.size W w')
    (h2 : ∀ W, Stp W → Calls Tryd.prog 11 #[.agg #[.int .i64 (hi (-x)), .int .u64 (lo (-x))], .int .i64 n, .int .i64 4] W fun e w' => e = .returned (.tuple #[.int .i64 u, .int .i64 d]) ∧ Below W.heap.size W w') :
    Calls Tryd.prog 10 #[.agg #[.int .i64 (hi x), .int .u64 (lo x)], .int .i64 n, .int .i64 m] w fun e w' => e = .returned (.bool true) ∧ Below w.heap.size w w' := by
  have b0 := Below.refl w.heap.size w
  have HL := Lib.hid (fun (W : World) (hS : Stp W) => live_any W hS)
  have HO := Lib.hid (fun (n : Int) (W : World) (hn : I64 n) => rof_any n W hn)
  have hs := fun (W : World) => rsub_any 0 x W (by unfold I128; omega) hx
  unfold SumPost at hs
  rw [Int.zero_sub, fit_in hx2, ovf_in hx2] at hs
  have HU := Lib.hid hs
  subst hmode
  have H1 := Lib.hid h1
  have H2 := Lib.hid h2
  have HV := Lib.hid (fun (W : World) => rvalid_yes 3 W (by omega) (by omega))
  clear hs h1 h2 hx hx2
  generalize hy : -x = y at *
  clear hy
  rcases hR with ⟨rfl, rfl, rfl, hu1, hu2⟩ | ⟨rfl, rfl⟩ | ⟨rfl, rfl, rfl⟩ | ⟨rfl, rfl, rfl⟩
  all_goals
    go_enter Tryd.func10, Tryd.ntmps10
    go_wp2_with fail
    have hn := Bk.Blk.nw10 (W := w) (cs := #[.int .i64 (hi x), .int .u64 (lo x)]) (t := 24)
    have hb1 : Below (w).heap.size w ((w).alloc (.cells #[.int .i64 (hi x), .int .u64 (lo x)] 24)) := (Below.refl _ _).alloc (Nat.le_refl _) _
    generalize (w).alloc (.cells #[.int .i64 (hi x), .int .u64 (lo x)] 24) = w1 at *
    have b1 : Below w.heap.size w w1 := bl2 hb1 (by repeat (first | assumption | exact Below.refl _ _ | refine Below.setCell ?_ (by first | exact Nat.le_refl _ | (simp; done) | (simp; omega) | omega) _ | refine Below.alloc ?_ (by first | exact Nat.le_refl _ | (simp; done) | (simp; omega) | omega) _ | refine Below.drew ?_ | exact Nat.le_refl _))
    have z1 := b1.size
    repeat (rename Bk.Blk w _ _ _ => hq; (first | (have hq' := Bk.Blk.carry hq hb1 (by (repeat (first | with_reducible refine Bk.Blk.drew ?_ | with_reducible refine Bk.Blk.set_same ?_ | with_reducible refine Bk.Blk.set_ne ?_ (by omega) | with_reducible refine Bk.Blk.alloc ?_)); (with_reducible exact hq))) | (have hq' := Bk.Blk.later hb1 (Bk.Blk.set2 hq)) | skip); clear hq)
    try (have hn := Bk.Blk.later (g := (w).heap.size) hb1 (by first | with_reducible exact Bk.Blk.nw10 | with_reducible exact Bk.Blk.nw20 | with_reducible exact Bk.Blk.nw21 | with_reducible exact Bk.Blk.nw30 | with_reducible exact Bk.Blk.nw31 | with_reducible exact Bk.Blk.nw32 | with_reducible exact Bk.Blk.nw40 | with_reducible exact Bk.Blk.nw41 | with_reducible exact Bk.Blk.nw42 | with_reducible exact Bk.Blk.nw43))
    try (have hn := Bk.Blk.later (g := (w).heap.size + 1) hb1 (by first | with_reducible exact Bk.Blk.nw10 | with_reducible exact Bk.Blk.nw20 | with_reducible exact Bk.Blk.nw21 | with_reducible exact Bk.Blk.nw30 | with_reducible exact Bk.Blk.nw31 | with_reducible exact Bk.Blk.nw32 | with_reducible exact Bk.Blk.nw40 | with_reducible exact Bk.Blk.nw41 | with_reducible exact Bk.Blk.nw42 | with_reducible exact Bk.Blk.nw43))
    try (have hn := Bk.Blk.later (g := (w).heap.size + 2) hb1 (by first | with_reducible exact Bk.Blk.nw10 | with_reducible exact Bk.Blk.nw20 | with_reducible exact Bk.Blk.nw21 | with_reducible exact Bk.Blk.nw30 | with_reducible exact Bk.Blk.nw31 | with_reducible exact Bk.Blk.nw32 | with_reducible exact Bk.Blk.nw40 | with_reducible exact Bk.Blk.nw41 | with_reducible exact Bk.Blk.nw42 | with_reducible exact Bk.Blk.nw43))
    try (have hn := Bk.Blk.later (g := (w).heap.size + 3) hb1 (by first | with_reducible exact Bk.Blk.nw10 | with_reducible exact Bk.Blk.nw20 | with_reducible exact Bk.Blk.nw21 | with_reducible exact Bk.Blk.nw30 | with_reducible exact Bk.Blk.nw31 | with_reducible exact Bk.Blk.nw32 | with_reducible exact Bk.Blk.nw40 | with_reducible exact Bk.Blk.nw41 | with_reducible exact Bk.Blk.nw42 | with_reducible exact Bk.Blk.nw43))
    clear hb1
    repeat (rename World.cell? w _ = _ => hq; clear hq)
    repeat (rename World.frozen? w _ = _ => hq; clear hq)
    repeat (rename Bk.Blk w1 _ _ _ => hq; (first | (have _k0 := (hq).c0; have _m0 := (hq).f0) | skip); (first | (have _k1 := (hq).c1; have _m1 := (hq).f1) | skip); (first | (have _k2 := (hq).c2; have _m2 := (hq).f2) | skip); (first | (have _k3 := (hq).c3; have _m3 := (hq).f3) | skip); have _z := (hq).lt; have hk := Bk.Kept.mk hq; clear hq)
    repeat (rename Bk.Kept (Bk.Blk w1 _ _ _) => hq; have hq' := hq.out; clear hq)
    refine Reg.region_alloc 7 6 7 (.cells #[.int .i64 0, .int .u64 0] 24) [(5, 7)] (by kernel_rfl) (by kernel_rfl) (by kernel_rfl) (fun d _ _ _ _ h => by cases d <;> exact h) _ rfl rfl rfl (fun ρ W => by simp [go_sem, Reg.ptr]) ?_
    simp only [Reg.edges, Reg.edge]
    have key := Bk.key0 (W := w1)
    repeat (rename Bk.Blk w1 _ _ _ => hq; (first | replace key := Bk.kadd key (hq).gall1 | replace key := Bk.kadd key (hq).gall2 | replace key := Bk.kadd key (hq).gall3 | replace key := Bk.kadd key (hq).gall4 | replace key := Bk.kadd key (hq).gall5 | replace key := Bk.kadd key (hq).gall6 | replace key := Bk.kadd key (hq).gall7 | replace key := Bk.kadd key (hq).gall8 | replace key := Bk.kadd key (hq).gall9 | replace key := Bk.kadd key (hq).gall10 | replace key := Bk.kadd key (hq).gall11 | replace key := Bk.kadd key (hq).gall12 | replace key := Bk.kadd key (hq).gall13 | replace key := Bk.kadd key (hq).gall14 | replace key := Bk.kadd key (hq).gall15 | replace key := Bk.kadd key (hq).gall16 | replace key := Bk.kadd key (hq).gall17 | replace key := Bk.kadd key (hq).gall18 | replace key := Bk.kadd key (hq).gall19 | replace key := Bk.kadd key (hq).gall20 | skip); have hk := Bk.Kept.mk hq; clear hq)
    repeat (rename Bk.Kept (Bk.Blk w1 _ _ _) => hq; have hq' := hq.out; clear hq)
    apply Exists.intro
    refine ⟨?_, ?_⟩
    · (intro C hC; simp only [Reg.blank, List.take_succ_cons, List.take_zero]; have kk := key C hC; (try have _a := kk.1.1); (try have _a := kk.1.2.1); (try have _a := kk.1.2.2.1); (try have _a := kk.2.1.1); (try have _a := kk.2.1.2.1); (try have _a := kk.2.1.2.2.1); (try have _a := kk.2.2.1.1); (try have _a := kk.2.2.1.2.1); (try have _a := kk.2.2.1.2.2.1); (try have _a := kk.2.2.2.1.1); (try have _a := kk.2.2.2.1.2.1); (try have _a := kk.2.2.2.1.2.2.1); (try have _a := kk.2.2.2.2.1.1); (try have _a := kk.2.2.2.2.1.2.1); (try have _a := kk.2.2.2.2.1.2.2.1); (try have _a := kk.2.2.2.2.2.1.1); (try have _a := kk.2.2.2.2.2.1.2.1); (try have _a := kk.2.2.2.2.2.1.2.2.1); (try have _a := kk.2.2.2.2.2.2.1.1); (try have _a := kk.2.2.2.2.2.2.1.2.1); (try have _a := kk.2.2.2.2.2.2.1.2.2.1); (try have _a := kk.2.2.2.2.2.2.2.1.1); (try have _a := kk.2.2.2.2.2.2.2.1.2.1); (try have _a := kk.2.2.2.2.2.2.2.1.2.2.1); (try have _a := kk.2.2.2.2.2.2.2.2.1.1); (try have _a := kk.2.2.2.2.2.2.2.2.1.2.1); (try have _a := kk.2.2.2.2.2.2.2.2.1.2.2.1); (try have _a := kk.2.2.2.2.2.2.2.2.2.1.1); (try have _a := kk.2.2.2.2.2.2.2.2.2.1.2.1); (try have _a := kk.2.2.2.2.2.2.2.2.2.1.2.2.1); (iterate 7 (first | go_big_quiet_skip | (go_big_quiet_want; (first | (go_big_quiet_op; go_big_quiet_on) | (apply Reg.quiet_run; (intro W hW; have hI : Bk.In C W := hW; go_simp; (first | done | rfl | exact ⟨rfl, rfl⟩ )); (simp only [Act.put, List.setIfInBounds_toArray, List.set_cons_zero, List.set_cons_succ]; go_big_quiet_on)) | (apply Reg.quiet_call; (intro W hW; go_simp; (first | done | rfl | exact ⟨rfl, rfl⟩)); (intro W hW; (first | (go_at_call 21; exact hC.call hW (HO.out _ _ (by unfold I64; omega))) | (go_at_call 28; exact hC.call hW (HU.out _)))); (simp only [Act.put, List.setIfInBounds_toArray, List.set_cons_zero, List.set_cons_succ]; go_big_quiet_on)))))); exact wpQuiet_nil rfl)
    clear key
    intro W w2 hW hb
    have hW2 := Reg.alc_back hW hb
    have hn := Bk.Blk.made hb
    have k2 := Below.size hW
    have b2 := bl2 hW2 (by repeat (first | assumption | exact Below.refl _ _ | refine Below.setCell ?_ (by first | exact Nat.le_refl _ | (simp; done) | (simp; omega) | omega) _ | refine Below.alloc ?_ (by first | exact Nat.le_refl _ | (simp; done) | (simp; omega) | omega) _ | refine Below.drew ?_ | exact Nat.le_refl _))
    have z2 := b2.size
    repeat (rename Bk.Blk w1 _ _ _ => hq; (first | (have hq' := Bk.Blk.later hW2 hq) | skip); clear hq)
    clear hb hW hW2
    repeat (rename World.cell? w1 _ = _ => hq; clear hq)
    repeat (rename World.frozen? w1 _ = _ => hq; clear hq)
    repeat (rename Bk.Blk w2 _ _ _ => hq; (first | (have _k0 := (hq).c0; have _m0 := (hq).f0) | skip); (first | (have _k1 := (hq).c1; have _m1 := (hq).f1) | skip); (first | (have _k2 := (hq).c2; have _m2 := (hq).f2) | skip); (first | (have _k3 := (hq).c3; have _m3 := (hq).f3) | skip); have _z := (hq).lt; have hk := Bk.Kept.mk hq; clear hq)
    repeat (rename Bk.Kept (Bk.Blk w2 _ _ _) => hq; have hq' := hq.out; clear hq)
    simp only [List.drop_succ_cons, List.drop_zero, Act.put, List.setIfInBounds_toArray, List.set_cons_zero, List.set_cons_succ, Reg.ptr]
    generalize W.heap.size = g2 at *
    go_wp2_with fail
    have b3 : Below w.heap.size w (((w2).setCell ⟨g2, 0, none⟩ (.int .i64 (hi y))).setCell ⟨g2, 1, none⟩ (.int .u64 (lo y))) := (by repeat (first | assumption | exact Below.refl _ _ | refine Below.setCell ?_ (by first | exact Nat.le_refl _ | (simp; done) | (simp; omega) | omega) _ | refine Below.alloc ?_ (by first | exact Nat.le_refl _ | (simp; done) | (simp; omega) | omega) _ | refine Below.drew ?_ | exact Nat.le_refl _))
    have z3 := b3.size
    repeat (rename Bk.Blk w2 _ _ _ => hq; (first | (have hq' := Bk.Blk.carry0 (W := ((w2).setCell ⟨g2, 0, none⟩ (.int .i64 (hi y))).setCell ⟨g2, 1, none⟩ (.int .u64 (lo y))) hq (by (repeat (first | with_reducible refine Bk.Blk.drew ?_ | with_reducible refine Bk.Blk.set_same ?_ | with_reducible refine Bk.Blk.set_ne ?_ (by omega) | with_reducible refine Bk.Blk.alloc ?_)); (with_reducible exact hq))) | (have hq' := Bk.Blk.set2 (u := .int .i64 (hi y)) (v := .int .u64 (lo y)) hq) | skip); clear hq)
    generalize ((w2).setCell ⟨g2, 0, none⟩ (.int .i64 (hi y))).setCell ⟨g2, 1, none⟩ (.int .u64 (lo y)) = w3 at *
    repeat (rename World.cell? w2 _ = _ => hq; clear hq)
    repeat (rename World.frozen? w2 _ = _ => hq; clear hq)
    repeat (rename Bk.Blk w3 _ _ _ => hq; (first | (have _k0 := (hq).c0; have _m0 := (hq).f0) | skip); (first | (have _k1 := (hq).c1; have _m1 := (hq).f1) | skip); (first | (have _k2 := (hq).c2; have _m2 := (hq).f2) | skip); (first | (have _k3 := (hq).c3; have _m3 := (hq).f3) | skip); have _z := (hq).lt; have hk := Bk.Kept.mk hq; clear hq)
    repeat (rename Bk.Kept (Bk.Blk w3 _ _ _) => hq; have hq' := hq.out; clear hq)
    refine (HV.out _).mono ?_
    rintro e w' ⟨rfl, rfl⟩
    go_wp2_with fail
    refine (H1.out _ (hS.of (by repeat (first | assumption | exact Below.refl _ _ | refine Below.setCell ?_ (by first | exact Nat.le_refl _ | (simp; done) | (simp; omega) | omega) _ | refine Below.alloc ?_ (by first | exact Nat.le_refl _ | (simp; done) | (simp; omega) | omega) _ | refine Below.drew ?_ | exact Nat.le_refl _)))).mono ?_
    rintro e w4 ⟨rfl, hb4⟩
    have b4 : Below w.heap.size w w4 := bl2 hb4 (by repeat (first | assumption | exact Below.refl _ _ | refine Below.setCell ?_ (by first | exact Nat.le_refl _ | (simp; done) | (simp; omega) | omega) _ | refine Below.alloc ?_ (by first | exact Nat.le_refl _ | (simp; done) | (simp; omega) | omega) _ | refine Below.drew ?_ | exact Nat.le_refl _))
    have z4 := b4.size
    repeat (rename Bk.Blk w3 _ _ _ => hq; (first | (have hq' := Bk.Blk.carry hq hb4 (by (repeat (first | with_reducible refine Bk.Blk.drew ?_ | with_reducible refine Bk.Blk.set_same ?_ | with_reducible refine Bk.Blk.set_ne ?_ (by omega) | with_reducible refine Bk.Blk.alloc ?_)); (with_reducible exact hq))) | (have hq' := Bk.Blk.later hb4 (Bk.Blk.set2 hq)) | skip); clear hq)
    try (have hn := Bk.Blk.later (g := (w3).heap.size) hb4 (by first | with_reducible exact Bk.Blk.nw10 | with_reducible exact Bk.Blk.nw20 | with_reducible exact Bk.Blk.nw21 | with_reducible exact Bk.Blk.nw30 | with_reducible exact Bk.Blk.nw31 | with_reducible exact Bk.Blk.nw32 | with_reducible exact Bk.Blk.nw40 | with_reducible exact Bk.Blk.nw41 | with_reducible exact Bk.Blk.nw42 | with_reducible exact Bk.Blk.nw43))
    try (have hn := Bk.Blk.later (g := (w3).heap.size + 1) hb4 (by first | with_reducible exact Bk.Blk.nw10 | with_reducible exact Bk.Blk.nw20 | with_reducible exact Bk.Blk.nw21 | with_reducible exact Bk.Blk.nw30 | with_reducible exact Bk.Blk.nw31 | with_reducible exact Bk.Blk.nw32 | with_reducible exact Bk.Blk.nw40 | with_reducible exact Bk.Blk.nw41 | with_reducible exact Bk.Blk.nw42 | with_reducible exact Bk.Blk.nw43))
    try (have hn := Bk.Blk.later (g := (w3).heap.size + 2) hb4 (by first | with_reducible exact Bk.Blk.nw10 | with_reducible exact Bk.Blk.nw20 | with_reducible exact Bk.Blk.nw21 | with_reducible exact Bk.Blk.nw30 | with_reducible exact Bk.Blk.nw31 | with_reducible exact Bk.Blk.nw32 | with_reducible exact Bk.Blk.nw40 | with_reducible exact Bk.Blk.nw41 | with_reducible exact Bk.Blk.nw42 | with_reducible exact Bk.Blk.nw43))
    try (have hn := Bk.Blk.later (g := (w3).heap.size + 3) hb4 (by first | with_reducible exact Bk.Blk.nw10 | with_reducible exact Bk.Blk.nw20 | with_reducible exact Bk.Blk.nw21 | with_reducible exact Bk.Blk.nw30 | with_reducible exact Bk.Blk.nw31 | with_reducible exact Bk.Blk.nw32 | with_reducible exact Bk.Blk.nw40 | with_reducible exact Bk.Blk.nw41 | with_reducible exact Bk.Blk.nw42 | with_reducible exact Bk.Blk.nw43))
    clear hb4
    repeat (rename World.cell? w3 _ = _ => hq; clear hq)
    repeat (rename World.frozen? w3 _ = _ => hq; clear hq)
    repeat (rename Bk.Blk w4 _ _ _ => hq; (first | (have _k0 := (hq).c0; have _m0 := (hq).f0) | skip); (first | (have _k1 := (hq).c1; have _m1 := (hq).f1) | skip); (first | (have _k2 := (hq).c2; have _m2 := (hq).f2) | skip); (first | (have _k3 := (hq).c3; have _m3 := (hq).f3) | skip); have _z := (hq).lt; have hk := Bk.Kept.mk hq; clear hq)
    repeat (rename Bk.Kept (Bk.Blk w4 _ _ _) => hq; have hq' := hq.out; clear hq)
    go_wp2_with fail
    refine (H2.out _ (hS.of (by repeat (first | assumption | exact Below.refl _ _ | refine Below.setCell ?_ (by first | exact Nat.le_refl _ | (simp; done) | (simp; omega) | omega) _ | refine Below.alloc ?_ (by first | exact Nat.le_refl _ | (simp; done) | (simp; omega) | omega) _ | refine Below.drew ?_ | exact Nat.le_refl _)))).mono ?_
    rintro e w5 ⟨rfl, hb5⟩
    have b5 : Below w.heap.size w w5 := bl2 hb5 (by repeat (first | assumption | exact Below.refl _ _ | refine Below.setCell ?_ (by first | exact Nat.le_refl _ | (simp; done) | (simp; omega) | omega) _ | refine Below.alloc ?_ (by first | exact Nat.le_refl _ | (simp; done) | (simp; omega) | omega) _ | refine Below.drew ?_ | exact Nat.le_refl _))
    have z5 := b5.size
    repeat (rename Bk.Blk w4 _ _ _ => hq; (first | (have hq' := Bk.Blk.carry hq hb5 (by (repeat (first | with_reducible refine Bk.Blk.drew ?_ | with_reducible refine Bk.Blk.set_same ?_ | with_reducible refine Bk.Blk.set_ne ?_ (by omega) | with_reducible refine Bk.Blk.alloc ?_)); (with_reducible exact hq))) | (have hq' := Bk.Blk.later hb5 (Bk.Blk.set2 hq)) | skip); clear hq)
    try (have hn := Bk.Blk.later (g := (w4).heap.size) hb5 (by first | with_reducible exact Bk.Blk.nw10 | with_reducible exact Bk.Blk.nw20 | with_reducible exact Bk.Blk.nw21 | with_reducible exact Bk.Blk.nw30 | with_reducible exact Bk.Blk.nw31 | with_reducible exact Bk.Blk.nw32 | with_reducible exact Bk.Blk.nw40 | with_reducible exact Bk.Blk.nw41 | with_reducible exact Bk.Blk.nw42 | with_reducible exact Bk.Blk.nw43))
    try (have hn := Bk.Blk.later (g := (w4).heap.size + 1) hb5 (by first | with_reducible exact Bk.Blk.nw10 | with_reducible exact Bk.Blk.nw20 | with_reducible exact Bk.Blk.nw21 | with_reducible exact Bk.Blk.nw30 | with_reducible exact Bk.Blk.nw31 | with_reducible exact Bk.Blk.nw32 | with_reducible exact Bk.Blk.nw40 | with_reducible exact Bk.Blk.nw41 | with_reducible exact Bk.Blk.nw42 | with_reducible exact Bk.Blk.nw43))
    try (have hn := Bk.Blk.later (g := (w4).heap.size + 2) hb5 (by first | with_reducible exact Bk.Blk.nw10 | with_reducible exact Bk.Blk.nw20 | with_reducible exact Bk.Blk.nw21 | with_reducible exact Bk.Blk.nw30 | with_reducible exact Bk.Blk.nw31 | with_reducible exact Bk.Blk.nw32 | with_reducible exact Bk.Blk.nw40 | with_reducible exact Bk.Blk.nw41 | with_reducible exact Bk.Blk.nw42 | with_reducible exact Bk.Blk.nw43))
    try (have hn := Bk.Blk.later (g := (w4).heap.size + 3) hb5 (by first | with_reducible exact Bk.Blk.nw10 | with_reducible exact Bk.Blk.nw20 | with_reducible exact Bk.Blk.nw21 | with_reducible exact Bk.Blk.nw30 | with_reducible exact Bk.Blk.nw31 | with_reducible exact Bk.Blk.nw32 | with_reducible exact Bk.Blk.nw40 | with_reducible exact Bk.Blk.nw41 | with_reducible exact Bk.Blk.nw42 | with_reducible exact Bk.Blk.nw43))
    clear hb5
    repeat (rename World.cell? w4 _ = _ => hq; clear hq)
    repeat (rename World.frozen? w4 _ = _ => hq; clear hq)
    repeat (rename Bk.Blk w5 _ _ _ => hq; (first | (have _k0 := (hq).c0; have _m0 := (hq).f0) | skip); (first | (have _k1 := (hq).c1; have _m1 := (hq).f1) | skip); (first | (have _k2 := (hq).c2; have _m2 := (hq).f2) | skip); (first | (have _k3 := (hq).c3; have _m3 := (hq).f3) | skip); have _z := (hq).lt; have hk := Bk.Kept.mk hq; clear hq)
    repeat (rename Bk.Kept (Bk.Blk w5 _ _ _) => hq; have hq' := hq.out; clear hq)
    go_wp2_with fail
    refine (HL.out _ (hS.of (by repeat (first | assumption | exact Below.refl _ _ | refine Below.setCell ?_ (by first | exact Nat.le_refl _ | (simp; done) | (simp; omega) | omega) _ | refine Below.alloc ?_ (by first | exact Nat.le_refl _ | (simp; done) | (simp; omega) | omega) _ | refine Below.drew ?_ | exact Nat.le_refl _)))).mono ?_
    rintro e w6 ⟨rfl, hb6⟩
    have b6 : Below w.heap.size w w6 := bl2 hb6 (by repeat (first | assumption | exact Below.refl _ _ | refine Below.setCell ?_ (by first | exact Nat.le_refl _ | (simp; done) | (simp; omega) | omega) _ | refine Below.alloc ?_ (by first | exact Nat.le_refl _ | (simp; done) | (simp; omega) | omega) _ | refine Below.drew ?_ | exact Nat.le_refl _))
    have z6 := b6.size
    repeat (rename Bk.Blk w5 _ _ _ => hq; (first | (have hq' := Bk.Blk.carry hq hb6 (by (repeat (first | with_reducible refine Bk.Blk.drew ?_ | with_reducible refine Bk.Blk.set_same ?_ | with_reducible refine Bk.Blk.set_ne ?_ (by omega) | with_reducible refine Bk.Blk.alloc ?_)); (with_reducible exact hq))) | (have hq' := Bk.Blk.later hb6 (Bk.Blk.set2 hq)) | skip); clear hq)
    try (have hn := Bk.Blk.later (g := (w5).heap.size) hb6 (by first | with_reducible exact Bk.Blk.nw10 | with_reducible exact Bk.Blk.nw20 | with_reducible exact Bk.Blk.nw21 | with_reducible exact Bk.Blk.nw30 | with_reducible exact Bk.Blk.nw31 | with_reducible exact Bk.Blk.nw32 | with_reducible exact Bk.Blk.nw40 | with_reducible exact Bk.Blk.nw41 | with_reducible exact Bk.Blk.nw42 | with_reducible exact Bk.Blk.nw43))
    try (have hn := Bk.Blk.later (g := (w5).heap.size + 1) hb6 (by first | with_reducible exact Bk.Blk.nw10 | with_reducible exact Bk.Blk.nw20 | with_reducible exact Bk.Blk.nw21 | with_reducible exact Bk.Blk.nw30 | with_reducible exact Bk.Blk.nw31 | with_reducible exact Bk.Blk.nw32 | with_reducible exact Bk.Blk.nw40 | with_reducible exact Bk.Blk.nw41 | with_reducible exact Bk.Blk.nw42 | with_reducible exact Bk.Blk.nw43))
    try (have hn := Bk.Blk.later (g := (w5).heap.size + 2) hb6 (by first | with_reducible exact Bk.Blk.nw10 | with_reducible exact Bk.Blk.nw20 | with_reducible exact Bk.Blk.nw21 | with_reducible exact Bk.Blk.nw30 | with_reducible exact Bk.Blk.nw31 | with_reducible exact Bk.Blk.nw32 | with_reducible exact Bk.Blk.nw40 | with_reducible exact Bk.Blk.nw41 | with_reducible exact Bk.Blk.nw42 | with_reducible exact Bk.Blk.nw43))
    try (have hn := Bk.Blk.later (g := (w5).heap.size + 3) hb6 (by first | with_reducible exact Bk.Blk.nw10 | with_reducible exact Bk.Blk.nw20 | with_reducible exact Bk.Blk.nw21 | with_reducible exact Bk.Blk.nw30 | with_reducible exact Bk.Blk.nw31 | with_reducible exact Bk.Blk.nw32 | with_reducible exact Bk.Blk.nw40 | with_reducible exact Bk.Blk.nw41 | with_reducible exact Bk.Blk.nw42 | with_reducible exact Bk.Blk.nw43))
    clear hb6
    repeat (rename World.cell? w5 _ = _ => hq; clear hq)
    repeat (rename World.frozen? w5 _ = _ => hq; clear hq)
    repeat (rename Bk.Blk w6 _ _ _ => hq; (first | (have _k0 := (hq).c0; have _m0 := (hq).f0) | skip); (first | (have _k1 := (hq).c1; have _m1 := (hq).f1) | skip); (first | (have _k2 := (hq).c2; have _m2 := (hq).f2) | skip); (first | (have _k3 := (hq).c3; have _m3 := (hq).f3) | skip); have _z := (hq).lt; have hk := Bk.Kept.mk hq; clear hq)
    repeat (rename Bk.Kept (Bk.Blk w6 _ _ _) => hq; have hq' := hq.out; clear hq)
    go_wp2_with fail
    go_ret
    exact ⟨rfl, (by repeat (first | assumption | exact Below.refl _ _ | refine Below.setCell ?_ (by first | exact Nat.le_refl _ | (simp; done) | (simp; omega) | omega) _ | refine Below.alloc ?_ (by first | exact Nat.le_refl _ | (simp; done) | (simp; omega) | omega) _ | refine Below.drew ?_ | exact Nat.le_refl _))⟩
set_option maxHeartbeats 8000000 in
theorem mirrors_c (x n m v c u d : Int) (w : World) (hS : Stp w) (hx : I128 x) (hx2 : I128 (-x)) (hn : 1 ≤ n) (hm1 : 1 ≤ m) (hm6 : m ≤ 6) (hmode : m = 4) (hR : Mirr v c u d)
    (h1 : ∀ W, Stp W → Calls Tryd.prog 11 #[.agg #[.int .i64 (hi x), .int .u64 (lo x)], .int .i64 n, .int .i64 m] W fun e w' => e = .returned (.tuple #[.int .i64 v, .int .i64 c]) ∧ Below W.heap.size W w')
    (h2 : ∀ W, Stp W → Calls Tryd.prog 11 #[.agg #[.int .i64 (hi (-x)), .int .u64 (lo (-x))], .int .i64 n, .int .i64 3] W fun e w' => e = .returned (.tuple #[.int .i64 u, .int .i64 d]) ∧ Below W.heap.size W w') :
    Calls Tryd.prog 10 #[.agg #[.int .i64 (hi x), .int .u64 (lo x)], .int .i64 n, .int .i64 m] w fun e w' => e = .returned (.bool true) ∧ Below w.heap.size w w' := by
  have b0 := Below.refl w.heap.size w
  have HL := Lib.hid (fun (W : World) (hS : Stp W) => live_any W hS)
  have HO := Lib.hid (fun (n : Int) (W : World) (hn : I64 n) => rof_any n W hn)
  have hs := fun (W : World) => rsub_any 0 x W (by unfold I128; omega) hx
  unfold SumPost at hs
  rw [Int.zero_sub, fit_in hx2, ovf_in hx2] at hs
  have HU := Lib.hid hs
  subst hmode
  have H1 := Lib.hid h1
  have H2 := Lib.hid h2
  have HV := Lib.hid (fun (W : World) => rvalid_yes 4 W (by omega) (by omega))
  clear hs h1 h2 hx hx2
  generalize hy : -x = y at *
  clear hy
  rcases hR with ⟨rfl, rfl, rfl, hu1, hu2⟩ | ⟨rfl, rfl⟩ | ⟨rfl, rfl, rfl⟩ | ⟨rfl, rfl, rfl⟩
  all_goals
    go_enter Tryd.func10, Tryd.ntmps10
    go_wp2_with fail
    have hn := Bk.Blk.nw10 (W := w) (cs := #[.int .i64 (hi x), .int .u64 (lo x)]) (t := 24)
    have hb1 : Below (w).heap.size w ((w).alloc (.cells #[.int .i64 (hi x), .int .u64 (lo x)] 24)) := (Below.refl _ _).alloc (Nat.le_refl _) _
    generalize (w).alloc (.cells #[.int .i64 (hi x), .int .u64 (lo x)] 24) = w1 at *
    have b1 : Below w.heap.size w w1 := bl2 hb1 (by repeat (first | assumption | exact Below.refl _ _ | refine Below.setCell ?_ (by first | exact Nat.le_refl _ | (simp; done) | (simp; omega) | omega) _ | refine Below.alloc ?_ (by first | exact Nat.le_refl _ | (simp; done) | (simp; omega) | omega) _ | refine Below.drew ?_ | exact Nat.le_refl _))
    have z1 := b1.size
    repeat (rename Bk.Blk w _ _ _ => hq; (first | (have hq' := Bk.Blk.carry hq hb1 (by (repeat (first | with_reducible refine Bk.Blk.drew ?_ | with_reducible refine Bk.Blk.set_same ?_ | with_reducible refine Bk.Blk.set_ne ?_ (by omega) | with_reducible refine Bk.Blk.alloc ?_)); (with_reducible exact hq))) | (have hq' := Bk.Blk.later hb1 (Bk.Blk.set2 hq)) | skip); clear hq)
    try (have hn := Bk.Blk.later (g := (w).heap.size) hb1 (by first | with_reducible exact Bk.Blk.nw10 | with_reducible exact Bk.Blk.nw20 | with_reducible exact Bk.Blk.nw21 | with_reducible exact Bk.Blk.nw30 | with_reducible exact Bk.Blk.nw31 | with_reducible exact Bk.Blk.nw32 | with_reducible exact Bk.Blk.nw40 | with_reducible exact Bk.Blk.nw41 | with_reducible exact Bk.Blk.nw42 | with_reducible exact Bk.Blk.nw43))
    try (have hn := Bk.Blk.later (g := (w).heap.size + 1) hb1 (by first | with_reducible exact Bk.Blk.nw10 | with_reducible exact Bk.Blk.nw20 | with_reducible exact Bk.Blk.nw21 | with_reducible exact Bk.Blk.nw30 | with_reducible exact Bk.Blk.nw31 | with_reducible exact Bk.Blk.nw32 | with_reducible exact Bk.Blk.nw40 | with_reducible exact Bk.Blk.nw41 | with_reducible exact Bk.Blk.nw42 | with_reducible exact Bk.Blk.nw43))
    try (have hn := Bk.Blk.later (g := (w).heap.size + 2) hb1 (by first | with_reducible exact Bk.Blk.nw10 | with_reducible exact Bk.Blk.nw20 | with_reducible exact Bk.Blk.nw21 | with_reducible exact Bk.Blk.nw30 | with_reducible exact Bk.Blk.nw31 | with_reducible exact Bk.Blk.nw32 | with_reducible exact Bk.Blk.nw40 | with_reducible exact Bk.Blk.nw41 | with_reducible exact Bk.Blk.nw42 | with_reducible exact Bk.Blk.nw43))
    try (have hn := Bk.Blk.later (g := (w).heap.size + 3) hb1 (by first | with_reducible exact Bk.Blk.nw10 | with_reducible exact Bk.Blk.nw20 | with_reducible exact Bk.Blk.nw21 | with_reducible exact Bk.Blk.nw30 | with_reducible exact Bk.Blk.nw31 | with_reducible exact Bk.Blk.nw32 | with_reducible exact Bk.Blk.nw40 | with_reducible exact Bk.Blk.nw41 | with_reducible exact Bk.Blk.nw42 | with_reducible exact Bk.Blk.nw43))
    clear hb1
    repeat (rename World.cell? w _ = _ => hq; clear hq)
    repeat (rename World.frozen? w _ = _ => hq; clear hq)
    repeat (rename Bk.Blk w1 _ _ _ => hq; (first | (have _k0 := (hq).c0; have _m0 := (hq).f0) | skip); (first | (have _k1 := (hq).c1; have _m1 := (hq).f1) | skip); (first | (have _k2 := (hq).c2; have _m2 := (hq).f2) | skip); (first | (have _k3 := (hq).c3; have _m3 := (hq).f3) | skip); have _z := (hq).lt; have hk := Bk.Kept.mk hq; clear hq)
    repeat (rename Bk.Kept (Bk.Blk w1 _ _ _) => hq; have hq' := hq.out; clear hq)
    refine Reg.region_alloc 7 6 7 (.cells #[.int .i64 0, .int .u64 0] 24) [(5, 7)] (by kernel_rfl) (by kernel_rfl) (by kernel_rfl) (fun d _ _ _ _ h => by cases d <;> exact h) _ rfl rfl rfl (fun ρ W => by simp [go_sem, Reg.ptr]) ?_
    simp only [Reg.edges, Reg.edge]
    have key := Bk.key0 (W := w1)
    repeat (rename Bk.Blk w1 _ _ _ => hq; (first | replace key := Bk.kadd key (hq).gall1 | replace key := Bk.kadd key (hq).gall2 | replace key := Bk.kadd key (hq).gall3 | replace key := Bk.kadd key (hq).gall4 | replace key := Bk.kadd key (hq).gall5 | replace key := Bk.kadd key (hq).gall6 | replace key := Bk.kadd key (hq).gall7 | replace key := Bk.kadd key (hq).gall8 | replace key := Bk.kadd key (hq).gall9 | replace key := Bk.kadd key (hq).gall10 | replace key := Bk.kadd key (hq).gall11 | replace key := Bk.kadd key (hq).gall12 | replace key := Bk.kadd key (hq).gall13 | replace key := Bk.kadd key (hq).gall14 | replace key := Bk.kadd key (hq).gall15 | replace key := Bk.kadd key (hq).gall16 | replace key := Bk.kadd key (hq).gall17 | replace key := Bk.kadd key (hq).gall18 | replace key := Bk.kadd key (hq).gall19 | replace key := Bk.kadd key (hq).gall20 | skip); have hk := Bk.Kept.mk hq; clear hq)
    repeat (rename Bk.Kept (Bk.Blk w1 _ _ _) => hq; have hq' := hq.out; clear hq)
    apply Exists.intro
    refine ⟨?_, ?_⟩
    · (intro C hC; simp only [Reg.blank, List.take_succ_cons, List.take_zero]; have kk := key C hC; (try have _a := kk.1.1); (try have _a := kk.1.2.1); (try have _a := kk.1.2.2.1); (try have _a := kk.2.1.1); (try have _a := kk.2.1.2.1); (try have _a := kk.2.1.2.2.1); (try have _a := kk.2.2.1.1); (try have _a := kk.2.2.1.2.1); (try have _a := kk.2.2.1.2.2.1); (try have _a := kk.2.2.2.1.1); (try have _a := kk.2.2.2.1.2.1); (try have _a := kk.2.2.2.1.2.2.1); (try have _a := kk.2.2.2.2.1.1); (try have _a := kk.2.2.2.2.1.2.1); (try have _a := kk.2.2.2.2.1.2.2.1); (try have _a := kk.2.2.2.2.2.1.1); (try have _a := kk.2.2.2.2.2.1.2.1); (try have _a := kk.2.2.2.2.2.1.2.2.1); (try have _a := kk.2.2.2.2.2.2.1.1); (try have _a := kk.2.2.2.2.2.2.1.2.1); (try have _a := kk.2.2.2.2.2.2.1.2.2.1); (try have _a := kk.2.2.2.2.2.2.2.1.1); (try have _a := kk.2.2.2.2.2.2.2.1.2.1); (try have _a := kk.2.2.2.2.2.2.2.1.2.2.1); (try have _a := kk.2.2.2.2.2.2.2.2.1.1); (try have _a := kk.2.2.2.2.2.2.2.2.1.2.1); (try have _a := kk.2.2.2.2.2.2.2.2.1.2.2.1); (try have _a := kk.2.2.2.2.2.2.2.2.2.1.1); (try have _a := kk.2.2.2.2.2.2.2.2.2.1.2.1); (try have _a := kk.2.2.2.2.2.2.2.2.2.1.2.2.1); (iterate 7 (first | go_big_quiet_skip | (go_big_quiet_want; (first | (go_big_quiet_op; go_big_quiet_on) | (apply Reg.quiet_run; (intro W hW; have hI : Bk.In C W := hW; go_simp; (first | done | rfl | exact ⟨rfl, rfl⟩ )); (simp only [Act.put, List.setIfInBounds_toArray, List.set_cons_zero, List.set_cons_succ]; go_big_quiet_on)) | (apply Reg.quiet_call; (intro W hW; go_simp; (first | done | rfl | exact ⟨rfl, rfl⟩)); (intro W hW; (first | (go_at_call 21; exact hC.call hW (HO.out _ _ (by unfold I64; omega))) | (go_at_call 28; exact hC.call hW (HU.out _)))); (simp only [Act.put, List.setIfInBounds_toArray, List.set_cons_zero, List.set_cons_succ]; go_big_quiet_on)))))); exact wpQuiet_nil rfl)
    clear key
    intro W w2 hW hb
    have hW2 := Reg.alc_back hW hb
    have hn := Bk.Blk.made hb
    have k2 := Below.size hW
    have b2 := bl2 hW2 (by repeat (first | assumption | exact Below.refl _ _ | refine Below.setCell ?_ (by first | exact Nat.le_refl _ | (simp; done) | (simp; omega) | omega) _ | refine Below.alloc ?_ (by first | exact Nat.le_refl _ | (simp; done) | (simp; omega) | omega) _ | refine Below.drew ?_ | exact Nat.le_refl _))
    have z2 := b2.size
    repeat (rename Bk.Blk w1 _ _ _ => hq; (first | (have hq' := Bk.Blk.later hW2 hq) | skip); clear hq)
    clear hb hW hW2
    repeat (rename World.cell? w1 _ = _ => hq; clear hq)
    repeat (rename World.frozen? w1 _ = _ => hq; clear hq)
    repeat (rename Bk.Blk w2 _ _ _ => hq; (first | (have _k0 := (hq).c0; have _m0 := (hq).f0) | skip); (first | (have _k1 := (hq).c1; have _m1 := (hq).f1) | skip); (first | (have _k2 := (hq).c2; have _m2 := (hq).f2) | skip); (first | (have _k3 := (hq).c3; have _m3 := (hq).f3) | skip); have _z := (hq).lt; have hk := Bk.Kept.mk hq; clear hq)
    repeat (rename Bk.Kept (Bk.Blk w2 _ _ _) => hq; have hq' := hq.out; clear hq)
    simp only [List.drop_succ_cons, List.drop_zero, Act.put, List.setIfInBounds_toArray, List.set_cons_zero, List.set_cons_succ, Reg.ptr]
    generalize W.heap.size = g2 at *
    go_wp2_with fail
    have b3 : Below w.heap.size w (((w2).setCell ⟨g2, 0, none⟩ (.int .i64 (hi y))).setCell ⟨g2, 1, none⟩ (.int .u64 (lo y))) := (by repeat (first | assumption | exact Below.refl _ _ | refine Below.setCell ?_ (by first | exact Nat.le_refl _ | (simp; done) | (simp; omega) | omega) _ | refine Below.alloc ?_ (by first | exact Nat.le_refl _ | (simp; done) | (simp; omega) | omega) _ | refine Below.drew ?_ | exact Nat.le_refl _))
    have z3 := b3.size
    repeat (rename Bk.Blk w2 _ _ _ => hq; (first | (have hq' := Bk.Blk.carry0 (W := ((w2).setCell ⟨g2, 0, none⟩ (.int .i64 (hi y))).setCell ⟨g2, 1, none⟩ (.int .u64 (lo y))) hq (by (repeat (first | with_reducible refine Bk.Blk.drew ?_ | with_reducible refine Bk.Blk.set_same ?_ | with_reducible refine Bk.Blk.set_ne ?_ (by omega) | with_reducible refine Bk.Blk.alloc ?_)); (with_reducible exact hq))) | (have hq' := Bk.Blk.set2 (u := .int .i64 (hi y)) (v := .int .u64 (lo y)) hq) | skip); clear hq)
    generalize ((w2).setCell ⟨g2, 0, none⟩ (.int .i64 (hi y))).setCell ⟨g2, 1, none⟩ (.int .u64 (lo y)) = w3 at *
    repeat (rename World.cell? w2 _ = _ => hq; clear hq)
    repeat (rename World.frozen? w2 _ = _ => hq; clear hq)
    repeat (rename Bk.Blk w3 _ _ _ => hq; (first | (have _k0 := (hq).c0; have _m0 := (hq).f0) | skip); (first | (have _k1 := (hq).c1; have _m1 := (hq).f1) | skip); (first | (have _k2 := (hq).c2; have _m2 := (hq).f2) | skip); (first | (have _k3 := (hq).c3; have _m3 := (hq).f3) | skip); have _z := (hq).lt; have hk := Bk.Kept.mk hq; clear hq)
    repeat (rename Bk.Kept (Bk.Blk w3 _ _ _) => hq; have hq' := hq.out; clear hq)
    refine (HV.out _).mono ?_
    rintro e w' ⟨rfl, rfl⟩
    go_wp2_with fail
    refine (H1.out _ (hS.of (by repeat (first | assumption | exact Below.refl _ _ | refine Below.setCell ?_ (by first | exact Nat.le_refl _ | (simp; done) | (simp; omega) | omega) _ | refine Below.alloc ?_ (by first | exact Nat.le_refl _ | (simp; done) | (simp; omega) | omega) _ | refine Below.drew ?_ | exact Nat.le_refl _)))).mono ?_
    rintro e w4 ⟨rfl, hb4⟩
    have b4 : Below w.heap.size w w4 := bl2 hb4 (by repeat (first | assumption | exact Below.refl _ _ | refine Below.setCell ?_ (by first | exact Nat.le_refl _ | (simp; done) | (simp; omega) | omega) _ | refine Below.alloc ?_ (by first | exact Nat.le_refl _ | (simp; done) | (simp; omega) | omega) _ | refine Below.drew ?_ | exact Nat.le_refl _))
    have z4 := b4.size
    repeat (rename Bk.Blk w3 _ _ _ => hq; (first | (have hq' := Bk.Blk.carry hq hb4 (by (repeat (first | with_reducible refine Bk.Blk.drew ?_ | with_reducible refine Bk.Blk.set_same ?_ | with_reducible refine Bk.Blk.set_ne ?_ (by omega) | with_reducible refine Bk.Blk.alloc ?_)); (with_reducible exact hq))) | (have hq' := Bk.Blk.later hb4 (Bk.Blk.set2 hq)) | skip); clear hq)
    try (have hn := Bk.Blk.later (g := (w3).heap.size) hb4 (by first | with_reducible exact Bk.Blk.nw10 | with_reducible exact Bk.Blk.nw20 | with_reducible exact Bk.Blk.nw21 | with_reducible exact Bk.Blk.nw30 | with_reducible exact Bk.Blk.nw31 | with_reducible exact Bk.Blk.nw32 | with_reducible exact Bk.Blk.nw40 | with_reducible exact Bk.Blk.nw41 | with_reducible exact Bk.Blk.nw42 | with_reducible exact Bk.Blk.nw43))
    try (have hn := Bk.Blk.later (g := (w3).heap.size + 1) hb4 (by first | with_reducible exact Bk.Blk.nw10 | with_reducible exact Bk.Blk.nw20 | with_reducible exact Bk.Blk.nw21 | with_reducible exact Bk.Blk.nw30 | with_reducible exact Bk.Blk.nw31 | with_reducible exact Bk.Blk.nw32 | with_reducible exact Bk.Blk.nw40 | with_reducible exact Bk.Blk.nw41 | with_reducible exact Bk.Blk.nw42 | with_reducible exact Bk.Blk.nw43))
    try (have hn := Bk.Blk.later (g := (w3).heap.size + 2) hb4 (by first | with_reducible exact Bk.Blk.nw10 | with_reducible exact Bk.Blk.nw20 | with_reducible exact Bk.Blk.nw21 | with_reducible exact Bk.Blk.nw30 | with_reducible exact Bk.Blk.nw31 | with_reducible exact Bk.Blk.nw32 | with_reducible exact Bk.Blk.nw40 | with_reducible exact Bk.Blk.nw41 | with_reducible exact Bk.Blk.nw42 | with_reducible exact Bk.Blk.nw43))
    try (have hn := Bk.Blk.later (g := (w3).heap.size + 3) hb4 (by first | with_reducible exact Bk.Blk.nw10 | with_reducible exact Bk.Blk.nw20 | with_reducible exact Bk.Blk.nw21 | with_reducible exact Bk.Blk.nw30 | with_reducible exact Bk.Blk.nw31 | with_reducible exact Bk.Blk.nw32 | with_reducible exact Bk.Blk.nw40 | with_reducible exact Bk.Blk.nw41 | with_reducible exact Bk.Blk.nw42 | with_reducible exact Bk.Blk.nw43))
    clear hb4
    repeat (rename World.cell? w3 _ = _ => hq; clear hq)
    repeat (rename World.frozen? w3 _ = _ => hq; clear hq)
    repeat (rename Bk.Blk w4 _ _ _ => hq; (first | (have _k0 := (hq).c0; have _m0 := (hq).f0) | skip); (first | (have _k1 := (hq).c1; have _m1 := (hq).f1) | skip); (first | (have _k2 := (hq).c2; have _m2 := (hq).f2) | skip); (first | (have _k3 := (hq).c3; have _m3 := (hq).f3) | skip); have _z := (hq).lt; have hk := Bk.Kept.mk hq; clear hq)
    repeat (rename Bk.Kept (Bk.Blk w4 _ _ _) => hq; have hq' := hq.out; clear hq)
    go_wp2_with fail
    refine (H2.out _ (hS.of (by repeat (first | assumption | exact Below.refl _ _ | refine Below.setCell ?_ (by first | exact Nat.le_refl _ | (simp; done) | (simp; omega) | omega) _ | refine Below.alloc ?_ (by first | exact Nat.le_refl _ | (simp; done) | (simp; omega) | omega) _ | refine Below.drew ?_ | exact Nat.le_refl _)))).mono ?_
    rintro e w5 ⟨rfl, hb5⟩
    have b5 : Below w.heap.size w w5 := bl2 hb5 (by repeat (first | assumption | exact Below.refl _ _ | refine Below.setCell ?_ (by first | exact Nat.le_refl _ | (simp; done) | (simp; omega) | omega) _ | refine Below.alloc ?_ (by first | exact Nat.le_refl _ | (simp; done) | (simp; omega) | omega) _ | refine Below.drew ?_ | exact Nat.le_refl _))
    have z5 := b5.size
    repeat (rename Bk.Blk w4 _ _ _ => hq; (first | (have hq' := Bk.Blk.carry hq hb5 (by (repeat (first | with_reducible refine Bk.Blk.drew ?_ | with_reducible refine Bk.Blk.set_same ?_ | with_reducible refine Bk.Blk.set_ne ?_ (by omega) | with_reducible refine Bk.Blk.alloc ?_)); (with_reducible exact hq))) | (have hq' := Bk.Blk.later hb5 (Bk.Blk.set2 hq)) | skip); clear hq)
    try (have hn := Bk.Blk.later (g := (w4).heap.size) hb5 (by first | with_reducible exact Bk.Blk.nw10 | with_reducible exact Bk.Blk.nw20 | with_reducible exact Bk.Blk.nw21 | with_reducible exact Bk.Blk.nw30 | with_reducible exact Bk.Blk.nw31 | with_reducible exact Bk.Blk.nw32 | with_reducible exact Bk.Blk.nw40 | with_reducible exact Bk.Blk.nw41 | with_reducible exact Bk.Blk.nw42 | with_reducible exact Bk.Blk.nw43))
    try (have hn := Bk.Blk.later (g := (w4).heap.size + 1) hb5 (by first | with_reducible exact Bk.Blk.nw10 | with_reducible exact Bk.Blk.nw20 | with_reducible exact Bk.Blk.nw21 | with_reducible exact Bk.Blk.nw30 | with_reducible exact Bk.Blk.nw31 | with_reducible exact Bk.Blk.nw32 | with_reducible exact Bk.Blk.nw40 | with_reducible exact Bk.Blk.nw41 | with_reducible exact Bk.Blk.nw42 | with_reducible exact Bk.Blk.nw43))
    try (have hn := Bk.Blk.later (g := (w4).heap.size + 2) hb5 (by first | with_reducible exact Bk.Blk.nw10 | with_reducible exact Bk.Blk.nw20 | with_reducible exact Bk.Blk.nw21 | with_reducible exact Bk.Blk.nw30 | with_reducible exact Bk.Blk.nw31 | with_reducible exact Bk.Blk.nw32 | with_reducible exact Bk.Blk.nw40 | with_reducible exact Bk.Blk.nw41 | with_reducible exact Bk.Blk.nw42 | with_reducible exact Bk.Blk.nw43))
    try (have hn := Bk.Blk.later (g := (w4).heap.size + 3) hb5 (by first | with_reducible exact Bk.Blk.nw10 | with_reducible exact Bk.Blk.nw20 | with_reducible exact Bk.Blk.nw21 | with_reducible exact Bk.Blk.nw30 | with_reducible exact Bk.Blk.nw31 | with_reducible exact Bk.Blk.nw32 | with_reducible exact Bk.Blk.nw40 | with_reducible exact Bk.Blk.nw41 | with_reducible exact Bk.Blk.nw42 | with_reducible exact Bk.Blk.nw43))
    clear hb5
    repeat (rename World.cell? w4 _ = _ => hq; clear hq)
    repeat (rename World.frozen? w4 _ = _ => hq; clear hq)
    repeat (rename Bk.Blk w5 _ _ _ => hq; (first | (have _k0 := (hq).c0; have _m0 := (hq).f0) | skip); (first | (have _k1 := (hq).c1; have _m1 := (hq).f1) | skip); (first | (have _k2 := (hq).c2; have _m2 := (hq).f2) | skip); (first | (have _k3 := (hq).c3; have _m3 := (hq).f3) | skip); have _z := (hq).lt; have hk := Bk.Kept.mk hq; clear hq)
    repeat (rename Bk.Kept (Bk.Blk w5 _ _ _) => hq; have hq' := hq.out; clear hq)
    go_wp2_with fail
    refine (HL.out _ (hS.of (by repeat (first | assumption | exact Below.refl _ _ | refine Below.setCell ?_ (by first | exact Nat.le_refl _ | (simp; done) | (simp; omega) | omega) _ | refine Below.alloc ?_ (by first | exact Nat.le_refl _ | (simp; done) | (simp; omega) | omega) _ | refine Below.drew ?_ | exact Nat.le_refl _)))).mono ?_
    rintro e w6 ⟨rfl, hb6⟩
    have b6 : Below w.heap.size w w6 := bl2 hb6 (by repeat (first | assumption | exact Below.refl _ _ | refine Below.setCell ?_ (by first | exact Nat.le_refl _ | (simp; done) | (simp; omega) | omega) _ | refine Below.alloc ?_ (by first | exact Nat.le_refl _ | (simp; done) | (simp; omega) | omega) _ | refine Below.drew ?_ | exact Nat.le_refl _))
    have z6 := b6.size
    repeat (rename Bk.Blk w5 _ _ _ => hq; (first | (have hq' := Bk.Blk.carry hq hb6 (by (repeat (first | with_reducible refine Bk.Blk.drew ?_ | with_reducible refine Bk.Blk.set_same ?_ | with_reducible refine Bk.Blk.set_ne ?_ (by omega) | with_reducible refine Bk.Blk.alloc ?_)); (with_reducible exact hq))) | (have hq' := Bk.Blk.later hb6 (Bk.Blk.set2 hq)) | skip); clear hq)
    try (have hn := Bk.Blk.later (g := (w5).heap.size) hb6 (by first | with_reducible exact Bk.Blk.nw10 | with_reducible exact Bk.Blk.nw20 | with_reducible exact Bk.Blk.nw21 | with_reducible exact Bk.Blk.nw30 | with_reducible exact Bk.Blk.nw31 | with_reducible exact Bk.Blk.nw32 | with_reducible exact Bk.Blk.nw40 | with_reducible exact Bk.Blk.nw41 | with_reducible exact Bk.Blk.nw42 | with_reducible exact Bk.Blk.nw43))
    try (have hn := Bk.Blk.later (g := (w5).heap.size + 1) hb6 (by first | with_reducible exact Bk.Blk.nw10 | with_reducible exact Bk.Blk.nw20 | with_reducible exact Bk.Blk.nw21 | with_reducible exact Bk.Blk.nw30 | with_reducible exact Bk.Blk.nw31 | with_reducible exact Bk.Blk.nw32 | with_reducible exact Bk.Blk.nw40 | with_reducible exact Bk.Blk.nw41 | with_reducible exact Bk.Blk.nw42 | with_reducible exact Bk.Blk.nw43))
    try (have hn := Bk.Blk.later (g := (w5).heap.size + 2) hb6 (by first | with_reducible exact Bk.Blk.nw10 | with_reducible exact Bk.Blk.nw20 | with_reducible exact Bk.Blk.nw21 | with_reducible exact Bk.Blk.nw30 | with_reducible exact Bk.Blk.nw31 | with_reducible exact Bk.Blk.nw32 | with_reducible exact Bk.Blk.nw40 | with_reducible exact Bk.Blk.nw41 | with_reducible exact Bk.Blk.nw42 | with_reducible exact Bk.Blk.nw43))
    try (have hn := Bk.Blk.later (g := (w5).heap.size + 3) hb6 (by first | with_reducible exact Bk.Blk.nw10 | with_reducible exact Bk.Blk.nw20 | with_reducible exact Bk.Blk.nw21 | with_reducible exact Bk.Blk.nw30 | with_reducible exact Bk.Blk.nw31 | with_reducible exact Bk.Blk.nw32 | with_reducible exact Bk.Blk.nw40 | with_reducible exact Bk.Blk.nw41 | with_reducible exact Bk.Blk.nw42 | with_reducible exact Bk.Blk.nw43))
    clear hb6
    repeat (rename World.cell? w5 _ = _ => hq; clear hq)
    repeat (rename World.frozen? w5 _ = _ => hq; clear hq)
    repeat (rename Bk.Blk w6 _ _ _ => hq; (first | (have _k0 := (hq).c0; have _m0 := (hq).f0) | skip); (first | (have _k1 := (hq).c1; have _m1 := (hq).f1) | skip); (first | (have _k2 := (hq).c2; have _m2 := (hq).f2) | skip); (first | (have _k3 := (hq).c3; have _m3 := (hq).f3) | skip); have _z := (hq).lt; have hk := Bk.Kept.mk hq; clear hq)
    repeat (rename Bk.Kept (Bk.Blk w6 _ _ _) => hq; have hq' := hq.out; clear hq)
    go_wp2_with fail
    go_ret
    exact ⟨rfl, (by repeat (first | assumption | exact Below.refl _ _ | refine Below.setCell ?_ (by first | exact Nat.le_refl _ | (simp; done) | (simp; omega) | omega) _ | refine Below.alloc ?_ (by first | exact Nat.le_refl _ | (simp; done) | (simp; omega) | omega) _ | refine Below.drew ?_ | exact Nat.le_refl _))⟩
set_option maxHeartbeats 8000000 in
theorem mirrors_o (x n m v c u d : Int) (w : World) (hS : Stp w) (hx : I128 x) (hx2 : I128 (-x)) (hn : 1 ≤ n) (hm1 : 1 ≤ m) (hm6 : m ≤ 6) (hmode : m ≠ 3 ∧ m ≠ 4) (hR : Mirr v c u d)
    (h1 : ∀ W, Stp W → Calls Tryd.prog 11 #[.agg #[.int .i64 (hi x), .int .u64 (lo x)], .int .i64 n, .int .i64 m] W fun e w' => e = .returned (.tuple #[.int .i64 v, .int .i64 c]) ∧ Below W.heap.size W w')
    (h2 : ∀ W, Stp W → Calls Tryd.prog 11 #[.agg #[.int .i64 (hi (-x)), .int .u64 (lo (-x))], .int .i64 n, .int .i64 m] W fun e w' => e = .returned (.tuple #[.int .i64 u, .int .i64 d]) ∧ Below W.heap.size W w') :
    Calls Tryd.prog 10 #[.agg #[.int .i64 (hi x), .int .u64 (lo x)], .int .i64 n, .int .i64 m] w fun e w' => e = .returned (.bool true) ∧ Below w.heap.size w w' := by
  have b0 := Below.refl w.heap.size w
  have HL := Lib.hid (fun (W : World) (hS : Stp W) => live_any W hS)
  have HO := Lib.hid (fun (n : Int) (W : World) (hn : I64 n) => rof_any n W hn)
  have hs := fun (W : World) => rsub_any 0 x W (by unfold I128; omega) hx
  unfold SumPost at hs
  rw [Int.zero_sub, fit_in hx2, ovf_in hx2] at hs
  have HU := Lib.hid hs
  obtain ⟨m3, m4⟩ := hmode
  have H1 := Lib.hid h1
  have H2 := Lib.hid h2
  have HV := Lib.hid (fun (W : World) => rvalid_yes m W (by omega) (by omega))
  clear hs h1 h2 hx hx2
  generalize hy : -x = y at *
  clear hy
  rcases hR with ⟨rfl, rfl, rfl, hu1, hu2⟩ | ⟨rfl, rfl⟩ | ⟨rfl, rfl, rfl⟩ | ⟨rfl, rfl, rfl⟩
  all_goals
    go_enter Tryd.func10, Tryd.ntmps10
    go_wp2_with fail
    have hn := Bk.Blk.nw10 (W := w) (cs := #[.int .i64 (hi x), .int .u64 (lo x)]) (t := 24)
    have hb1 : Below (w).heap.size w ((w).alloc (.cells #[.int .i64 (hi x), .int .u64 (lo x)] 24)) := (Below.refl _ _).alloc (Nat.le_refl _) _
    generalize (w).alloc (.cells #[.int .i64 (hi x), .int .u64 (lo x)] 24) = w1 at *
    have b1 : Below w.heap.size w w1 := bl2 hb1 (by repeat (first | assumption | exact Below.refl _ _ | refine Below.setCell ?_ (by first | exact Nat.le_refl _ | (simp; done) | (simp; omega) | omega) _ | refine Below.alloc ?_ (by first | exact Nat.le_refl _ | (simp; done) | (simp; omega) | omega) _ | refine Below.drew ?_ | exact Nat.le_refl _))
    have z1 := b1.size
    repeat (rename Bk.Blk w _ _ _ => hq; (first | (have hq' := Bk.Blk.carry hq hb1 (by (repeat (first | with_reducible refine Bk.Blk.drew ?_ | with_reducible refine Bk.Blk.set_same ?_ | with_reducible refine Bk.Blk.set_ne ?_ (by omega) | with_reducible refine Bk.Blk.alloc ?_)); (with_reducible exact hq))) | (have hq' := Bk.Blk.later hb1 (Bk.Blk.set2 hq)) | skip); clear hq)
    try (have hn := Bk.Blk.later (g := (w).heap.size) hb1 (by first | with_reducible exact Bk.Blk.nw10 | with_reducible exact Bk.Blk.nw20 | with_reducible exact Bk.Blk.nw21 | with_reducible exact Bk.Blk.nw30 | with_reducible exact Bk.Blk.nw31 | with_reducible exact Bk.Blk.nw32 | with_reducible exact Bk.Blk.nw40 | with_reducible exact Bk.Blk.nw41 | with_reducible exact Bk.Blk.nw42 | with_reducible exact Bk.Blk.nw43))
    try (have hn := Bk.Blk.later (g := (w).heap.size + 1) hb1 (by first | with_reducible exact Bk.Blk.nw10 | with_reducible exact Bk.Blk.nw20 | with_reducible exact Bk.Blk.nw21 | with_reducible exact Bk.Blk.nw30 | with_reducible exact Bk.Blk.nw31 | with_reducible exact Bk.Blk.nw32 | with_reducible exact Bk.Blk.nw40 | with_reducible exact Bk.Blk.nw41 | with_reducible exact Bk.Blk.nw42 | with_reducible exact Bk.Blk.nw43))
    try (have hn := Bk.Blk.later (g := (w).heap.size + 2) hb1 (by first | with_reducible exact Bk.Blk.nw10 | with_reducible exact Bk.Blk.nw20 | with_reducible exact Bk.Blk.nw21 | with_reducible exact Bk.Blk.nw30 | with_reducible exact Bk.Blk.nw31 | with_reducible exact Bk.Blk.nw32 | with_reducible exact Bk.Blk.nw40 | with_reducible exact Bk.Blk.nw41 | with_reducible exact Bk.Blk.nw42 | with_reducible exact Bk.Blk.nw43))
    try (have hn := Bk.Blk.later (g := (w).heap.size + 3) hb1 (by first | with_reducible exact Bk.Blk.nw10 | with_reducible exact Bk.Blk.nw20 | with_reducible exact Bk.Blk.nw21 | with_reducible exact Bk.Blk.nw30 | with_reducible exact Bk.Blk.nw31 | with_reducible exact Bk.Blk.nw32 | with_reducible exact Bk.Blk.nw40 | with_reducible exact Bk.Blk.nw41 | with_reducible exact Bk.Blk.nw42 | with_reducible exact Bk.Blk.nw43))
    clear hb1
    repeat (rename World.cell? w _ = _ => hq; clear hq)
    repeat (rename World.frozen? w _ = _ => hq; clear hq)
    repeat (rename Bk.Blk w1 _ _ _ => hq; (first | (have _k0 := (hq).c0; have _m0 := (hq).f0) | skip); (first | (have _k1 := (hq).c1; have _m1 := (hq).f1) | skip); (first | (have _k2 := (hq).c2; have _m2 := (hq).f2) | skip); (first | (have _k3 := (hq).c3; have _m3 := (hq).f3) | skip); have _z := (hq).lt; have hk := Bk.Kept.mk hq; clear hq)
    repeat (rename Bk.Kept (Bk.Blk w1 _ _ _) => hq; have hq' := hq.out; clear hq)
    refine Reg.region_alloc 7 6 7 (.cells #[.int .i64 0, .int .u64 0] 24) [(5, 7)] (by kernel_rfl) (by kernel_rfl) (by kernel_rfl) (fun d _ _ _ _ h => by cases d <;> exact h) _ rfl rfl rfl (fun ρ W => by simp [go_sem, Reg.ptr]) ?_
    simp only [Reg.edges, Reg.edge]
    have key := Bk.key0 (W := w1)
    repeat (rename Bk.Blk w1 _ _ _ => hq; (first | replace key := Bk.kadd key (hq).gall1 | replace key := Bk.kadd key (hq).gall2 | replace key := Bk.kadd key (hq).gall3 | replace key := Bk.kadd key (hq).gall4 | replace key := Bk.kadd key (hq).gall5 | replace key := Bk.kadd key (hq).gall6 | replace key := Bk.kadd key (hq).gall7 | replace key := Bk.kadd key (hq).gall8 | replace key := Bk.kadd key (hq).gall9 | replace key := Bk.kadd key (hq).gall10 | replace key := Bk.kadd key (hq).gall11 | replace key := Bk.kadd key (hq).gall12 | replace key := Bk.kadd key (hq).gall13 | replace key := Bk.kadd key (hq).gall14 | replace key := Bk.kadd key (hq).gall15 | replace key := Bk.kadd key (hq).gall16 | replace key := Bk.kadd key (hq).gall17 | replace key := Bk.kadd key (hq).gall18 | replace key := Bk.kadd key (hq).gall19 | replace key := Bk.kadd key (hq).gall20 | skip); have hk := Bk.Kept.mk hq; clear hq)
    repeat (rename Bk.Kept (Bk.Blk w1 _ _ _) => hq; have hq' := hq.out; clear hq)
    apply Exists.intro
    refine ⟨?_, ?_⟩
    · (intro C hC; simp only [Reg.blank, List.take_succ_cons, List.take_zero]; have kk := key C hC; (try have _a := kk.1.1); (try have _a := kk.1.2.1); (try have _a := kk.1.2.2.1); (try have _a := kk.2.1.1); (try have _a := kk.2.1.2.1); (try have _a := kk.2.1.2.2.1); (try have _a := kk.2.2.1.1); (try have _a := kk.2.2.1.2.1); (try have _a := kk.2.2.1.2.2.1); (try have _a := kk.2.2.2.1.1); (try have _a := kk.2.2.2.1.2.1); (try have _a := kk.2.2.2.1.2.2.1); (try have _a := kk.2.2.2.2.1.1); (try have _a := kk.2.2.2.2.1.2.1); (try have _a := kk.2.2.2.2.1.2.2.1); (try have _a := kk.2.2.2.2.2.1.1); (try have _a := kk.2.2.2.2.2.1.2.1); (try have _a := kk.2.2.2.2.2.1.2.2.1); (try have _a := kk.2.2.2.2.2.2.1.1); (try have _a := kk.2.2.2.2.2.2.1.2.1); (try have _a := kk.2.2.2.2.2.2.1.2.2.1); (try have _a := kk.2.2.2.2.2.2.2.1.1); (try have _a := kk.2.2.2.2.2.2.2.1.2.1); (try have _a := kk.2.2.2.2.2.2.2.1.2.2.1); (try have _a := kk.2.2.2.2.2.2.2.2.1.1); (try have _a := kk.2.2.2.2.2.2.2.2.1.2.1); (try have _a := kk.2.2.2.2.2.2.2.2.1.2.2.1); (try have _a := kk.2.2.2.2.2.2.2.2.2.1.1); (try have _a := kk.2.2.2.2.2.2.2.2.2.1.2.1); (try have _a := kk.2.2.2.2.2.2.2.2.2.1.2.2.1); (iterate 7 (first | go_big_quiet_skip | (go_big_quiet_want; (first | (go_big_quiet_op; go_big_quiet_on) | (apply Reg.quiet_run; (intro W hW; have hI : Bk.In C W := hW; go_simp; (first | done | rfl | exact ⟨rfl, rfl⟩ )); (simp only [Act.put, List.setIfInBounds_toArray, List.set_cons_zero, List.set_cons_succ]; go_big_quiet_on)) | (apply Reg.quiet_call; (intro W hW; go_simp; (first | done | rfl | exact ⟨rfl, rfl⟩)); (intro W hW; (first | (go_at_call 21; exact hC.call hW (HO.out _ _ (by unfold I64; omega))) | (go_at_call 28; exact hC.call hW (HU.out _)))); (simp only [Act.put, List.setIfInBounds_toArray, List.set_cons_zero, List.set_cons_succ]; go_big_quiet_on)))))); exact wpQuiet_nil rfl)
    clear key
    intro W w2 hW hb
    have hW2 := Reg.alc_back hW hb
    have hn := Bk.Blk.made hb
    have k2 := Below.size hW
    have b2 := bl2 hW2 (by repeat (first | assumption | exact Below.refl _ _ | refine Below.setCell ?_ (by first | exact Nat.le_refl _ | (simp; done) | (simp; omega) | omega) _ | refine Below.alloc ?_ (by first | exact Nat.le_refl _ | (simp; done) | (simp; omega) | omega) _ | refine Below.drew ?_ | exact Nat.le_refl _))
    have z2 := b2.size
    repeat (rename Bk.Blk w1 _ _ _ => hq; (first | (have hq' := Bk.Blk.later hW2 hq) | skip); clear hq)
    clear hb hW hW2
    repeat (rename World.cell? w1 _ = _ => hq; clear hq)
    repeat (rename World.frozen? w1 _ = _ => hq; clear hq)
    repeat (rename Bk.Blk w2 _ _ _ => hq; (first | (have _k0 := (hq).c0; have _m0 := (hq).f0) | skip); (first | (have _k1 := (hq).c1; have _m1 := (hq).f1) | skip); (first | (have _k2 := (hq).c2; have _m2 := (hq).f2) | skip); (first | (have _k3 := (hq).c3; have _m3 := (hq).f3) | skip); have _z := (hq).lt; have hk := Bk.Kept.mk hq; clear hq)
    repeat (rename Bk.Kept (Bk.Blk w2 _ _ _) => hq; have hq' := hq.out; clear hq)
    simp only [List.drop_succ_cons, List.drop_zero, Act.put, List.setIfInBounds_toArray, List.set_cons_zero, List.set_cons_succ, Reg.ptr]
    generalize W.heap.size = g2 at *
    go_wp2_with fail
    have b3 : Below w.heap.size w (((w2).setCell ⟨g2, 0, none⟩ (.int .i64 (hi y))).setCell ⟨g2, 1, none⟩ (.int .u64 (lo y))) := (by repeat (first | assumption | exact Below.refl _ _ | refine Below.setCell ?_ (by first | exact Nat.le_refl _ | (simp; done) | (simp; omega) | omega) _ | refine Below.alloc ?_ (by first | exact Nat.le_refl _ | (simp; done) | (simp; omega) | omega) _ | refine Below.drew ?_ | exact Nat.le_refl _))
    have z3 := b3.size
    repeat (rename Bk.Blk w2 _ _ _ => hq; (first | (have hq' := Bk.Blk.carry0 (W := ((w2).setCell ⟨g2, 0, none⟩ (.int .i64 (hi y))).setCell ⟨g2, 1, none⟩ (.int .u64 (lo y))) hq (by (repeat (first | with_reducible refine Bk.Blk.drew ?_ | with_reducible refine Bk.Blk.set_same ?_ | with_reducible refine Bk.Blk.set_ne ?_ (by omega) | with_reducible refine Bk.Blk.alloc ?_)); (with_reducible exact hq))) | (have hq' := Bk.Blk.set2 (u := .int .i64 (hi y)) (v := .int .u64 (lo y)) hq) | skip); clear hq)
    generalize ((w2).setCell ⟨g2, 0, none⟩ (.int .i64 (hi y))).setCell ⟨g2, 1, none⟩ (.int .u64 (lo y)) = w3 at *
    repeat (rename World.cell? w2 _ = _ => hq; clear hq)
    repeat (rename World.frozen? w2 _ = _ => hq; clear hq)
    repeat (rename Bk.Blk w3 _ _ _ => hq; (first | (have _k0 := (hq).c0; have _m0 := (hq).f0) | skip); (first | (have _k1 := (hq).c1; have _m1 := (hq).f1) | skip); (first | (have _k2 := (hq).c2; have _m2 := (hq).f2) | skip); (first | (have _k3 := (hq).c3; have _m3 := (hq).f3) | skip); have _z := (hq).lt; have hk := Bk.Kept.mk hq; clear hq)
    repeat (rename Bk.Kept (Bk.Blk w3 _ _ _) => hq; have hq' := hq.out; clear hq)
    refine (HV.out _).mono ?_
    rintro e w' ⟨rfl, rfl⟩
    go_wp2_with fail
    refine (H1.out _ (hS.of (by repeat (first | assumption | exact Below.refl _ _ | refine Below.setCell ?_ (by first | exact Nat.le_refl _ | (simp; done) | (simp; omega) | omega) _ | refine Below.alloc ?_ (by first | exact Nat.le_refl _ | (simp; done) | (simp; omega) | omega) _ | refine Below.drew ?_ | exact Nat.le_refl _)))).mono ?_
    rintro e w4 ⟨rfl, hb4⟩
    have b4 : Below w.heap.size w w4 := bl2 hb4 (by repeat (first | assumption | exact Below.refl _ _ | refine Below.setCell ?_ (by first | exact Nat.le_refl _ | (simp; done) | (simp; omega) | omega) _ | refine Below.alloc ?_ (by first | exact Nat.le_refl _ | (simp; done) | (simp; omega) | omega) _ | refine Below.drew ?_ | exact Nat.le_refl _))
    have z4 := b4.size
    repeat (rename Bk.Blk w3 _ _ _ => hq; (first | (have hq' := Bk.Blk.carry hq hb4 (by (repeat (first | with_reducible refine Bk.Blk.drew ?_ | with_reducible refine Bk.Blk.set_same ?_ | with_reducible refine Bk.Blk.set_ne ?_ (by omega) | with_reducible refine Bk.Blk.alloc ?_)); (with_reducible exact hq))) | (have hq' := Bk.Blk.later hb4 (Bk.Blk.set2 hq)) | skip); clear hq)
    try (have hn := Bk.Blk.later (g := (w3).heap.size) hb4 (by first | with_reducible exact Bk.Blk.nw10 | with_reducible exact Bk.Blk.nw20 | with_reducible exact Bk.Blk.nw21 | with_reducible exact Bk.Blk.nw30 | with_reducible exact Bk.Blk.nw31 | with_reducible exact Bk.Blk.nw32 | with_reducible exact Bk.Blk.nw40 | with_reducible exact Bk.Blk.nw41 | with_reducible exact Bk.Blk.nw42 | with_reducible exact Bk.Blk.nw43))
    try (have hn := Bk.Blk.later (g := (w3).heap.size + 1) hb4 (by first | with_reducible exact Bk.Blk.nw10 | with_reducible exact Bk.Blk.nw20 | with_reducible exact Bk.Blk.nw21 | with_reducible exact Bk.Blk.nw30 | with_reducible exact Bk.Blk.nw31 | with_reducible exact Bk.Blk.nw32 | with_reducible exact Bk.Blk.nw40 | with_reducible exact Bk.Blk.nw41 | with_reducible exact Bk.Blk.nw42 | with_reducible exact Bk.Blk.nw43))
    try (have hn := Bk.Blk.later (g := (w3).heap.size + 2) hb4 (by first | with_reducible exact Bk.Blk.nw10 | with_reducible exact Bk.Blk.nw20 | with_reducible exact Bk.Blk.nw21 | with_reducible exact Bk.Blk.nw30 | with_reducible exact Bk.Blk.nw31 | with_reducible exact Bk.Blk.nw32 | with_reducible exact Bk.Blk.nw40 | with_reducible exact Bk.Blk.nw41 | with_reducible exact Bk.Blk.nw42 | with_reducible exact Bk.Blk.nw43))
    try (have hn := Bk.Blk.later (g := (w3).heap.size + 3) hb4 (by first | with_reducible exact Bk.Blk.nw10 | with_reducible exact Bk.Blk.nw20 | with_reducible exact Bk.Blk.nw21 | with_reducible exact Bk.Blk.nw30 | with_reducible exact Bk.Blk.nw31 | with_reducible exact Bk.Blk.nw32 | with_reducible exact Bk.Blk.nw40 | with_reducible exact Bk.Blk.nw41 | with_reducible exact Bk.Blk.nw42 | with_reducible exact Bk.Blk.nw43))
    clear hb4
    repeat (rename World.cell? w3 _ = _ => hq; clear hq)
    repeat (rename World.frozen? w3 _ = _ => hq; clear hq)
    repeat (rename Bk.Blk w4 _ _ _ => hq; (first | (have _k0 := (hq).c0; have _m0 := (hq).f0) | skip); (first | (have _k1 := (hq).c1; have _m1 := (hq).f1) | skip); (first | (have _k2 := (hq).c2; have _m2 := (hq).f2) | skip); (first | (have _k3 := (hq).c3; have _m3 := (hq).f3) | skip); have _z := (hq).lt; have hk := Bk.Kept.mk hq; clear hq)
    repeat (rename Bk.Kept (Bk.Blk w4 _ _ _) => hq; have hq' := hq.out; clear hq)
    go_wp2_with fail
    refine (H2.out _ (hS.of (by repeat (first | assumption | exact Below.refl _ _ | refine Below.setCell ?_ (by first | exact Nat.le_refl _ | (simp; done) | (simp; omega) | omega) _ | refine Below.alloc ?_ (by first | exact Nat.le_refl _ | (simp; done) | (simp; omega) | omega) _ | refine Below.drew ?_ | exact Nat.le_refl _)))).mono ?_
    rintro e w5 ⟨rfl, hb5⟩
    have b5 : Below w.heap.size w w5 := bl2 hb5 (by repeat (first | assumption | exact Below.refl _ _ | refine Below.setCell ?_ (by first | exact Nat.le_refl _ | (simp; done) | (simp; omega) | omega) _ | refine Below.alloc ?_ (by first | exact Nat.le_refl _ | (simp; done) | (simp; omega) | omega) _ | refine Below.drew ?_ | exact Nat.le_refl _))
    have z5 := b5.size
    repeat (rename Bk.Blk w4 _ _ _ => hq; (first | (have hq' := Bk.Blk.carry hq hb5 (by (repeat (first | with_reducible refine Bk.Blk.drew ?_ | with_reducible refine Bk.Blk.set_same ?_ | with_reducible refine Bk.Blk.set_ne ?_ (by omega) | with_reducible refine Bk.Blk.alloc ?_)); (with_reducible exact hq))) | (have hq' := Bk.Blk.later hb5 (Bk.Blk.set2 hq)) | skip); clear hq)
    try (have hn := Bk.Blk.later (g := (w4).heap.size) hb5 (by first | with_reducible exact Bk.Blk.nw10 | with_reducible exact Bk.Blk.nw20 | with_reducible exact Bk.Blk.nw21 | with_reducible exact Bk.Blk.nw30 | with_reducible exact Bk.Blk.nw31 | with_reducible exact Bk.Blk.nw32 | with_reducible exact Bk.Blk.nw40 | with_reducible exact Bk.Blk.nw41 | with_reducible exact Bk.Blk.nw42 | with_reducible exact Bk.Blk.nw43))
    try (have hn := Bk.Blk.later (g := (w4).heap.size + 1) hb5 (by first | with_reducible exact Bk.Blk.nw10 | with_reducible exact Bk.Blk.nw20 | with_reducible exact Bk.Blk.nw21 | with_reducible exact Bk.Blk.nw30 | with_reducible exact Bk.Blk.nw31 | with_reducible exact Bk.Blk.nw32 | with_reducible exact Bk.Blk.nw40 | with_reducible exact Bk.Blk.nw41 | with_reducible exact Bk.Blk.nw42 | with_reducible exact Bk.Blk.nw43))
    try (have hn := Bk.Blk.later (g := (w4).heap.size + 2) hb5 (by first | with_reducible exact Bk.Blk.nw10 | with_reducible exact Bk.Blk.nw20 | with_reducible exact Bk.Blk.nw21 | with_reducible exact Bk.Blk.nw30 | with_reducible exact Bk.Blk.nw31 | with_reducible exact Bk.Blk.nw32 | with_reducible exact Bk.Blk.nw40 | with_reducible exact Bk.Blk.nw41 | with_reducible exact Bk.Blk.nw42 | with_reducible exact Bk.Blk.nw43))
    try (have hn := Bk.Blk.later (g := (w4).heap.size + 3) hb5 (by first | with_reducible exact Bk.Blk.nw10 | with_reducible exact Bk.Blk.nw20 | with_reducible exact Bk.Blk.nw21 | with_reducible exact Bk.Blk.nw30 | with_reducible exact Bk.Blk.nw31 | with_reducible exact Bk.Blk.nw32 | with_reducible exact Bk.Blk.nw40 | with_reducible exact Bk.Blk.nw41 | with_reducible exact Bk.Blk.nw42 | with_reducible exact Bk.Blk.nw43))
    clear hb5
    repeat (rename World.cell? w4 _ = _ => hq; clear hq)
    repeat (rename World.frozen? w4 _ = _ => hq; clear hq)
    repeat (rename Bk.Blk w5 _ _ _ => hq; (first | (have _k0 := (hq).c0; have _m0 := (hq).f0) | skip); (first | (have _k1 := (hq).c1; have _m1 := (hq).f1) | skip); (first | (have _k2 := (hq).c2; have _m2 := (hq).f2) | skip); (first | (have _k3 := (hq).c3; have _m3 := (hq).f3) | skip); have _z := (hq).lt; have hk := Bk.Kept.mk hq; clear hq)
    repeat (rename Bk.Kept (Bk.Blk w5 _ _ _) => hq; have hq' := hq.out; clear hq)
    go_wp2_with fail
    refine (HL.out _ (hS.of (by repeat (first | assumption | exact Below.refl _ _ | refine Below.setCell ?_ (by first | exact Nat.le_refl _ | (simp; done) | (simp; omega) | omega) _ | refine Below.alloc ?_ (by first | exact Nat.le_refl _ | (simp; done) | (simp; omega) | omega) _ | refine Below.drew ?_ | exact Nat.le_refl _)))).mono ?_
    rintro e w6 ⟨rfl, hb6⟩
    have b6 : Below w.heap.size w w6 := bl2 hb6 (by repeat (first | assumption | exact Below.refl _ _ | refine Below.setCell ?_ (by first | exact Nat.le_refl _ | (simp; done) | (simp; omega) | omega) _ | refine Below.alloc ?_ (by first | exact Nat.le_refl _ | (simp; done) | (simp; omega) | omega) _ | refine Below.drew ?_ | exact Nat.le_refl _))
    have z6 := b6.size
    repeat (rename Bk.Blk w5 _ _ _ => hq; (first | (have hq' := Bk.Blk.carry hq hb6 (by (repeat (first | with_reducible refine Bk.Blk.drew ?_ | with_reducible refine Bk.Blk.set_same ?_ | with_reducible refine Bk.Blk.set_ne ?_ (by omega) | with_reducible refine Bk.Blk.alloc ?_)); (with_reducible exact hq))) | (have hq' := Bk.Blk.later hb6 (Bk.Blk.set2 hq)) | skip); clear hq)
    try (have hn := Bk.Blk.later (g := (w5).heap.size) hb6 (by first | with_reducible exact Bk.Blk.nw10 | with_reducible exact Bk.Blk.nw20 | with_reducible exact Bk.Blk.nw21 | with_reducible exact Bk.Blk.nw30 | with_reducible exact Bk.Blk.nw31 | with_reducible exact Bk.Blk.nw32 | with_reducible exact Bk.Blk.nw40 | with_reducible exact Bk.Blk.nw41 | with_reducible exact Bk.Blk.nw42 | with_reducible exact Bk.Blk.nw43))
    try (have hn := Bk.Blk.later (g := (w5).heap.size + 1) hb6 (by first | with_reducible exact Bk.Blk.nw10 | with_reducible exact Bk.Blk.nw20 | with_reducible exact Bk.Blk.nw21 | with_reducible exact Bk.Blk.nw30 | with_reducible exact Bk.Blk.nw31 | with_reducible exact Bk.Blk.nw32 | with_reducible exact Bk.Blk.nw40 | with_reducible exact Bk.Blk.nw41 | with_reducible exact Bk.Blk.nw42 | with_reducible exact Bk.Blk.nw43))
    try (have hn := Bk.Blk.later (g := (w5).heap.size + 2) hb6 (by first | with_reducible exact Bk.Blk.nw10 | with_reducible exact Bk.Blk.nw20 | with_reducible exact Bk.Blk.nw21 | with_reducible exact Bk.Blk.nw30 | with_reducible exact Bk.Blk.nw31 | with_reducible exact Bk.Blk.nw32 | with_reducible exact Bk.Blk.nw40 | with_reducible exact Bk.Blk.nw41 | with_reducible exact Bk.Blk.nw42 | with_reducible exact Bk.Blk.nw43))
    try (have hn := Bk.Blk.later (g := (w5).heap.size + 3) hb6 (by first | with_reducible exact Bk.Blk.nw10 | with_reducible exact Bk.Blk.nw20 | with_reducible exact Bk.Blk.nw21 | with_reducible exact Bk.Blk.nw30 | with_reducible exact Bk.Blk.nw31 | with_reducible exact Bk.Blk.nw32 | with_reducible exact Bk.Blk.nw40 | with_reducible exact Bk.Blk.nw41 | with_reducible exact Bk.Blk.nw42 | with_reducible exact Bk.Blk.nw43))
    clear hb6
    repeat (rename World.cell? w5 _ = _ => hq; clear hq)
    repeat (rename World.frozen? w5 _ = _ => hq; clear hq)
    repeat (rename Bk.Blk w6 _ _ _ => hq; (first | (have _k0 := (hq).c0; have _m0 := (hq).f0) | skip); (first | (have _k1 := (hq).c1; have _m1 := (hq).f1) | skip); (first | (have _k2 := (hq).c2; have _m2 := (hq).f2) | skip); (first | (have _k3 := (hq).c3; have _m3 := (hq).f3) | skip); have _z := (hq).lt; have hk := Bk.Kept.mk hq; clear hq)
    repeat (rename Bk.Kept (Bk.Blk w6 _ _ _) => hq; have hq' := hq.out; clear hq)
    go_wp2_with fail
    go_ret
    exact ⟨rfl, (by repeat (first | assumption | exact Below.refl _ _ | refine Below.setCell ?_ (by first | exact Nat.le_refl _ | (simp; done) | (simp; omega) | omega) _ | refine Below.alloc ?_ (by first | exact Nat.le_refl _ | (simp; done) | (simp; omega) | omega) _ | refine Below.drew ?_ | exact Nat.le_refl _))⟩
set_option maxHeartbeats 8000000 in
theorem mirrors_no (x n m k : Int) (w : World) (hS : Stp w) (hx : I128 x) (h : (¬ I128 (-x) ∧ k = 1) ∨ (I128 (-x) ∧ n < 1 ∧ k = 2) ∨ (I128 (-x) ∧ 1 ≤ n ∧ (m < 1 ∨ 6 < m) ∧ k = 3)) :
    Calls Tryd.prog 10 #[.agg #[.int .i64 (hi x), .int .u64 (lo x)], .int .i64 n, .int .i64 m] w fun e w' => e = .returned (.bool true) ∧ Below w.heap.size w w' := by
  have b0 := Below.refl w.heap.size w
  have HL := Lib.hid (fun (W : World) (hS : Stp W) => live_any W hS)
  have HO := Lib.hid (fun (n : Int) (W : World) (hn : I64 n) => rof_any n W hn)
  have hs := fun (W : World) => rsub_any 0 x W (by unfold I128; omega) hx
  unfold SumPost at hs
  rw [Int.zero_sub] at hs
  rcases h with ⟨hx2, rfl⟩ | ⟨hx2, hn, rfl⟩ | ⟨hx2, hn, hm, rfl⟩
  · rw [fit_out hx2, ovf_out hx2, hi_0, lo_0] at hs
    have HU := Lib.hid hs
    clear hs hx hx2
    go_enter Tryd.func10, Tryd.ntmps10
    go_wp2_with fail
    have hn := Bk.Blk.nw10 (W := w) (cs := #[.int .i64 (hi x), .int .u64 (lo x)]) (t := 24)
    have hb1 : Below (w).heap.size w ((w).alloc (.cells #[.int .i64 (hi x), .int .u64 (lo x)] 24)) := (Below.refl _ _).alloc (Nat.le_refl _) _
    generalize (w).alloc (.cells #[.int .i64 (hi x), .int .u64 (lo x)] 24) = w1 at *
    have b1 : Below w.heap.size w w1 := bl2 hb1 (by repeat (first | assumption | exact Below.refl _ _ | refine Below.setCell ?_ (by first | exact Nat.le_refl _ | (simp; done) | (simp; omega) | omega) _ | refine Below.alloc ?_ (by first | exact Nat.le_refl _ | (simp; done) | (simp; omega) | omega) _ | refine Below.drew ?_ | exact Nat.le_refl _))
    have z1 := b1.size
    repeat (rename Bk.Blk w _ _ _ => hq; (first | (have hq' := Bk.Blk.carry hq hb1 (by (repeat (first | with_reducible refine Bk.Blk.drew ?_ | with_reducible refine Bk.Blk.set_same ?_ | with_reducible refine Bk.Blk.set_ne ?_ (by omega) | with_reducible refine Bk.Blk.alloc ?_)); (with_reducible exact hq))) | (have hq' := Bk.Blk.later hb1 (Bk.Blk.set2 hq)) | skip); clear hq)
    try (have hn := Bk.Blk.later (g := (w).heap.size) hb1 (by first | with_reducible exact Bk.Blk.nw10 | with_reducible exact Bk.Blk.nw20 | with_reducible exact Bk.Blk.nw21 | with_reducible exact Bk.Blk.nw30 | with_reducible exact Bk.Blk.nw31 | with_reducible exact Bk.Blk.nw32 | with_reducible exact Bk.Blk.nw40 | with_reducible exact Bk.Blk.nw41 | with_reducible exact Bk.Blk.nw42 | with_reducible exact Bk.Blk.nw43))
    try (have hn := Bk.Blk.later (g := (w).heap.size + 1) hb1 (by first | with_reducible exact Bk.Blk.nw10 | with_reducible exact Bk.Blk.nw20 | with_reducible exact Bk.Blk.nw21 | with_reducible exact Bk.Blk.nw30 | with_reducible exact Bk.Blk.nw31 | with_reducible exact Bk.Blk.nw32 | with_reducible exact Bk.Blk.nw40 | with_reducible exact Bk.Blk.nw41 | with_reducible exact Bk.Blk.nw42 | with_reducible exact Bk.Blk.nw43))
    try (have hn := Bk.Blk.later (g := (w).heap.size + 2) hb1 (by first | with_reducible exact Bk.Blk.nw10 | with_reducible exact Bk.Blk.nw20 | with_reducible exact Bk.Blk.nw21 | with_reducible exact Bk.Blk.nw30 | with_reducible exact Bk.Blk.nw31 | with_reducible exact Bk.Blk.nw32 | with_reducible exact Bk.Blk.nw40 | with_reducible exact Bk.Blk.nw41 | with_reducible exact Bk.Blk.nw42 | with_reducible exact Bk.Blk.nw43))
    try (have hn := Bk.Blk.later (g := (w).heap.size + 3) hb1 (by first | with_reducible exact Bk.Blk.nw10 | with_reducible exact Bk.Blk.nw20 | with_reducible exact Bk.Blk.nw21 | with_reducible exact Bk.Blk.nw30 | with_reducible exact Bk.Blk.nw31 | with_reducible exact Bk.Blk.nw32 | with_reducible exact Bk.Blk.nw40 | with_reducible exact Bk.Blk.nw41 | with_reducible exact Bk.Blk.nw42 | with_reducible exact Bk.Blk.nw43))
    clear hb1
    repeat (rename World.cell? w _ = _ => hq; clear hq)
    repeat (rename World.frozen? w _ = _ => hq; clear hq)
    repeat (rename Bk.Blk w1 _ _ _ => hq; (first | (have _k0 := (hq).c0; have _m0 := (hq).f0) | skip); (first | (have _k1 := (hq).c1; have _m1 := (hq).f1) | skip); (first | (have _k2 := (hq).c2; have _m2 := (hq).f2) | skip); (first | (have _k3 := (hq).c3; have _m3 := (hq).f3) | skip); have _z := (hq).lt; have hk := Bk.Kept.mk hq; clear hq)
    repeat (rename Bk.Kept (Bk.Blk w1 _ _ _) => hq; have hq' := hq.out; clear hq)
    refine Reg.region_alloc 7 6 7 (.cells #[.int .i64 0, .int .u64 0] 24) [(5, 7)] (by kernel_rfl) (by kernel_rfl) (by kernel_rfl) (fun d _ _ _ _ h => by cases d <;> exact h) _ rfl rfl rfl (fun ρ W => by simp [go_sem, Reg.ptr]) ?_
    simp only [Reg.edges, Reg.edge]
    have key := Bk.key0 (W := w1)
    repeat (rename Bk.Blk w1 _ _ _ => hq; (first | replace key := Bk.kadd key (hq).gall1 | replace key := Bk.kadd key (hq).gall2 | replace key := Bk.kadd key (hq).gall3 | replace key := Bk.kadd key (hq).gall4 | replace key := Bk.kadd key (hq).gall5 | replace key := Bk.kadd key (hq).gall6 | replace key := Bk.kadd key (hq).gall7 | replace key := Bk.kadd key (hq).gall8 | replace key := Bk.kadd key (hq).gall9 | replace key := Bk.kadd key (hq).gall10 | replace key := Bk.kadd key (hq).gall11 | replace key := Bk.kadd key (hq).gall12 | replace key := Bk.kadd key (hq).gall13 | replace key := Bk.kadd key (hq).gall14 | replace key := Bk.kadd key (hq).gall15 | replace key := Bk.kadd key (hq).gall16 | replace key := Bk.kadd key (hq).gall17 | replace key := Bk.kadd key (hq).gall18 | replace key := Bk.kadd key (hq).gall19 | replace key := Bk.kadd key (hq).gall20 | skip); have hk := Bk.Kept.mk hq; clear hq)
    repeat (rename Bk.Kept (Bk.Blk w1 _ _ _) => hq; have hq' := hq.out; clear hq)
    apply Exists.intro
    refine ⟨?_, ?_⟩
    · (intro C hC; simp only [Reg.blank, List.take_succ_cons, List.take_zero]; have kk := key C hC; (try have _a := kk.1.1); (try have _a := kk.1.2.1); (try have _a := kk.1.2.2.1); (try have _a := kk.2.1.1); (try have _a := kk.2.1.2.1); (try have _a := kk.2.1.2.2.1); (try have _a := kk.2.2.1.1); (try have _a := kk.2.2.1.2.1); (try have _a := kk.2.2.1.2.2.1); (try have _a := kk.2.2.2.1.1); (try have _a := kk.2.2.2.1.2.1); (try have _a := kk.2.2.2.1.2.2.1); (try have _a := kk.2.2.2.2.1.1); (try have _a := kk.2.2.2.2.1.2.1); (try have _a := kk.2.2.2.2.1.2.2.1); (try have _a := kk.2.2.2.2.2.1.1); (try have _a := kk.2.2.2.2.2.1.2.1); (try have _a := kk.2.2.2.2.2.1.2.2.1); (try have _a := kk.2.2.2.2.2.2.1.1); (try have _a := kk.2.2.2.2.2.2.1.2.1); (try have _a := kk.2.2.2.2.2.2.1.2.2.1); (try have _a := kk.2.2.2.2.2.2.2.1.1); (try have _a := kk.2.2.2.2.2.2.2.1.2.1); (try have _a := kk.2.2.2.2.2.2.2.1.2.2.1); (try have _a := kk.2.2.2.2.2.2.2.2.1.1); (try have _a := kk.2.2.2.2.2.2.2.2.1.2.1); (try have _a := kk.2.2.2.2.2.2.2.2.1.2.2.1); (try have _a := kk.2.2.2.2.2.2.2.2.2.1.1); (try have _a := kk.2.2.2.2.2.2.2.2.2.1.2.1); (try have _a := kk.2.2.2.2.2.2.2.2.2.1.2.2.1); (iterate 7 (first | go_big_quiet_skip | (go_big_quiet_want; (first | (go_big_quiet_op; go_big_quiet_on) | (apply Reg.quiet_run; (intro W hW; have hI : Bk.In C W := hW; go_simp; (first | done | rfl | exact ⟨rfl, rfl⟩ )); (simp only [Act.put, List.setIfInBounds_toArray, List.set_cons_zero, List.set_cons_succ]; go_big_quiet_on)) | (apply Reg.quiet_call; (intro W hW; go_simp; (first | done | rfl | exact ⟨rfl, rfl⟩)); (intro W hW; (first | (go_at_call 21; exact hC.call hW (HO.out _ _ (by unfold I64; omega))) | (go_at_call 28; exact hC.call hW (HU.out _)))); (simp only [Act.put, List.setIfInBounds_toArray, List.set_cons_zero, List.set_cons_succ]; go_big_quiet_on)))))); exact wpQuiet_nil rfl)
    clear key
    intro W w2 hW hb
    have hW2 := Reg.alc_back hW hb
    have hn := Bk.Blk.made hb
    have k2 := Below.size hW
    have b2 := bl2 hW2 (by repeat (first | assumption | exact Below.refl _ _ | refine Below.setCell ?_ (by first | exact Nat.le_refl _ | (simp; done) | (simp; omega) | omega) _ | refine Below.alloc ?_ (by first | exact Nat.le_refl _ | (simp; done) | (simp; omega) | omega) _ | refine Below.drew ?_ | exact Nat.le_refl _))
    have z2 := b2.size
    repeat (rename Bk.Blk w1 _ _ _ => hq; (first | (have hq' := Bk.Blk.later hW2 hq) | skip); clear hq)
    clear hb hW hW2
    repeat (rename World.cell? w1 _ = _ => hq; clear hq)
    repeat (rename World.frozen? w1 _ = _ => hq; clear hq)
    repeat (rename Bk.Blk w2 _ _ _ => hq; (first | (have _k0 := (hq).c0; have _m0 := (hq).f0) | skip); (first | (have _k1 := (hq).c1; have _m1 := (hq).f1) | skip); (first | (have _k2 := (hq).c2; have _m2 := (hq).f2) | skip); (first | (have _k3 := (hq).c3; have _m3 := (hq).f3) | skip); have _z := (hq).lt; have hk := Bk.Kept.mk hq; clear hq)
    repeat (rename Bk.Kept (Bk.Blk w2 _ _ _) => hq; have hq' := hq.out; clear hq)
    simp only [List.drop_succ_cons, List.drop_zero, Act.put, List.setIfInBounds_toArray, List.set_cons_zero, List.set_cons_succ, Reg.ptr]
    generalize W.heap.size = g2 at *
    go_wp2_with fail
    have b3 : Below w.heap.size w (((w2).setCell ⟨g2, 0, none⟩ (.int .i64 0)).setCell ⟨g2, 1, none⟩ (.int .u64 0)) := (by repeat (first | assumption | exact Below.refl _ _ | refine Below.setCell ?_ (by first | exact Nat.le_refl _ | (simp; done) | (simp; omega) | omega) _ | refine Below.alloc ?_ (by first | exact Nat.le_refl _ | (simp; done) | (simp; omega) | omega) _ | refine Below.drew ?_ | exact Nat.le_refl _))
    have z3 := b3.size
    repeat (rename Bk.Blk w2 _ _ _ => hq; (first | (have hq' := Bk.Blk.carry0 (W := ((w2).setCell ⟨g2, 0, none⟩ (.int .i64 0)).setCell ⟨g2, 1, none⟩ (.int .u64 0)) hq (by (repeat (first | with_reducible refine Bk.Blk.drew ?_ | with_reducible refine Bk.Blk.set_same ?_ | with_reducible refine Bk.Blk.set_ne ?_ (by omega) | with_reducible refine Bk.Blk.alloc ?_)); (with_reducible exact hq))) | (have hq' := Bk.Blk.set2 (u := .int .i64 0) (v := .int .u64 0) hq) | skip); clear hq)
    generalize ((w2).setCell ⟨g2, 0, none⟩ (.int .i64 0)).setCell ⟨g2, 1, none⟩ (.int .u64 0) = w3 at *
    repeat (rename World.cell? w2 _ = _ => hq; clear hq)
    repeat (rename World.frozen? w2 _ = _ => hq; clear hq)
    repeat (rename Bk.Blk w3 _ _ _ => hq; (first | (have _k0 := (hq).c0; have _m0 := (hq).f0) | skip); (first | (have _k1 := (hq).c1; have _m1 := (hq).f1) | skip); (first | (have _k2 := (hq).c2; have _m2 := (hq).f2) | skip); (first | (have _k3 := (hq).c3; have _m3 := (hq).f3) | skip); have _z := (hq).lt; have hk := Bk.Kept.mk hq; clear hq)
    repeat (rename Bk.Kept (Bk.Blk w3 _ _ _) => hq; have hq' := hq.out; clear hq)
    refine (HL.out _ (hS.of (by repeat (first | assumption | exact Below.refl _ _ | refine Below.setCell ?_ (by first | exact Nat.le_refl _ | (simp; done) | (simp; omega) | omega) _ | refine Below.alloc ?_ (by first | exact Nat.le_refl _ | (simp; done) | (simp; omega) | omega) _ | refine Below.drew ?_ | exact Nat.le_refl _)))).mono ?_
    rintro e w6 ⟨rfl, hb6⟩
    have b6 : Below w.heap.size w w6 := bl2 hb6 (by repeat (first | assumption | exact Below.refl _ _ | refine Below.setCell ?_ (by first | exact Nat.le_refl _ | (simp; done) | (simp; omega) | omega) _ | refine Below.alloc ?_ (by first | exact Nat.le_refl _ | (simp; done) | (simp; omega) | omega) _ | refine Below.drew ?_ | exact Nat.le_refl _))
    have z6 := b6.size
    repeat (rename Bk.Blk w3 _ _ _ => hq; (first | (have hq' := Bk.Blk.carry hq hb6 (by (repeat (first | with_reducible refine Bk.Blk.drew ?_ | with_reducible refine Bk.Blk.set_same ?_ | with_reducible refine Bk.Blk.set_ne ?_ (by omega) | with_reducible refine Bk.Blk.alloc ?_)); (with_reducible exact hq))) | (have hq' := Bk.Blk.later hb6 (Bk.Blk.set2 hq)) | skip); clear hq)
    try (have hn := Bk.Blk.later (g := (w3).heap.size) hb6 (by first | with_reducible exact Bk.Blk.nw10 | with_reducible exact Bk.Blk.nw20 | with_reducible exact Bk.Blk.nw21 | with_reducible exact Bk.Blk.nw30 | with_reducible exact Bk.Blk.nw31 | with_reducible exact Bk.Blk.nw32 | with_reducible exact Bk.Blk.nw40 | with_reducible exact Bk.Blk.nw41 | with_reducible exact Bk.Blk.nw42 | with_reducible exact Bk.Blk.nw43))
    try (have hn := Bk.Blk.later (g := (w3).heap.size + 1) hb6 (by first | with_reducible exact Bk.Blk.nw10 | with_reducible exact Bk.Blk.nw20 | with_reducible exact Bk.Blk.nw21 | with_reducible exact Bk.Blk.nw30 | with_reducible exact Bk.Blk.nw31 | with_reducible exact Bk.Blk.nw32 | with_reducible exact Bk.Blk.nw40 | with_reducible exact Bk.Blk.nw41 | with_reducible exact Bk.Blk.nw42 | with_reducible exact Bk.Blk.nw43))
    try (have hn := Bk.Blk.later (g := (w3).heap.size + 2) hb6 (by first | with_reducible exact Bk.Blk.nw10 | with_reducible exact Bk.Blk.nw20 | with_reducible exact Bk.Blk.nw21 | with_reducible exact Bk.Blk.nw30 | with_reducible exact Bk.Blk.nw31 | with_reducible exact Bk.Blk.nw32 | with_reducible exact Bk.Blk.nw40 | with_reducible exact Bk.Blk.nw41 | with_reducible exact Bk.Blk.nw42 | with_reducible exact Bk.Blk.nw43))
    try (have hn := Bk.Blk.later (g := (w3).heap.size + 3) hb6 (by first | with_reducible exact Bk.Blk.nw10 | with_reducible exact Bk.Blk.nw20 | with_reducible exact Bk.Blk.nw21 | with_reducible exact Bk.Blk.nw30 | with_reducible exact Bk.Blk.nw31 | with_reducible exact Bk.Blk.nw32 | with_reducible exact Bk.Blk.nw40 | with_reducible exact Bk.Blk.nw41 | with_reducible exact Bk.Blk.nw42 | with_reducible exact Bk.Blk.nw43))
    clear hb6
    repeat (rename World.cell? w3 _ = _ => hq; clear hq)
    repeat (rename World.frozen? w3 _ = _ => hq; clear hq)
    repeat (rename Bk.Blk w6 _ _ _ => hq; (first | (have _k0 := (hq).c0; have _m0 := (hq).f0) | skip); (first | (have _k1 := (hq).c1; have _m1 := (hq).f1) | skip); (first | (have _k2 := (hq).c2; have _m2 := (hq).f2) | skip); (first | (have _k3 := (hq).c3; have _m3 := (hq).f3) | skip); have _z := (hq).lt; have hk := Bk.Kept.mk hq; clear hq)
    repeat (rename Bk.Kept (Bk.Blk w6 _ _ _) => hq; have hq' := hq.out; clear hq)
    go_wp2_with fail
    go_ret
    exact ⟨rfl, (by repeat (first | assumption | exact Below.refl _ _ | refine Below.setCell ?_ (by first | exact Nat.le_refl _ | (simp; done) | (simp; omega) | omega) _ | refine Below.alloc ?_ (by first | exact Nat.le_refl _ | (simp; done) | (simp; omega) | omega) _ | refine Below.drew ?_ | exact Nat.le_refl _))⟩
  · rw [fit_in hx2, ovf_in hx2] at hs
    have HU := Lib.hid hs
    clear hs hx hx2
    generalize hy : -x = y at *
    clear hy
    go_enter Tryd.func10, Tryd.ntmps10
    go_wp2_with fail
    have hn := Bk.Blk.nw10 (W := w) (cs := #[.int .i64 (hi x), .int .u64 (lo x)]) (t := 24)
    have hb1 : Below (w).heap.size w ((w).alloc (.cells #[.int .i64 (hi x), .int .u64 (lo x)] 24)) := (Below.refl _ _).alloc (Nat.le_refl _) _
    generalize (w).alloc (.cells #[.int .i64 (hi x), .int .u64 (lo x)] 24) = w1 at *
    have b1 : Below w.heap.size w w1 := bl2 hb1 (by repeat (first | assumption | exact Below.refl _ _ | refine Below.setCell ?_ (by first | exact Nat.le_refl _ | (simp; done) | (simp; omega) | omega) _ | refine Below.alloc ?_ (by first | exact Nat.le_refl _ | (simp; done) | (simp; omega) | omega) _ | refine Below.drew ?_ | exact Nat.le_refl _))
    have z1 := b1.size
    repeat (rename Bk.Blk w _ _ _ => hq; (first | (have hq' := Bk.Blk.carry hq hb1 (by (repeat (first | with_reducible refine Bk.Blk.drew ?_ | with_reducible refine Bk.Blk.set_same ?_ | with_reducible refine Bk.Blk.set_ne ?_ (by omega) | with_reducible refine Bk.Blk.alloc ?_)); (with_reducible exact hq))) | (have hq' := Bk.Blk.later hb1 (Bk.Blk.set2 hq)) | skip); clear hq)
    try (have hn := Bk.Blk.later (g := (w).heap.size) hb1 (by first | with_reducible exact Bk.Blk.nw10 | with_reducible exact Bk.Blk.nw20 | with_reducible exact Bk.Blk.nw21 | with_reducible exact Bk.Blk.nw30 | with_reducible exact Bk.Blk.nw31 | with_reducible exact Bk.Blk.nw32 | with_reducible exact Bk.Blk.nw40 | with_reducible exact Bk.Blk.nw41 | with_reducible exact Bk.Blk.nw42 | with_reducible exact Bk.Blk.nw43))
    try (have hn := Bk.Blk.later (g := (w).heap.size + 1) hb1 (by first | with_reducible exact Bk.Blk.nw10 | with_reducible exact Bk.Blk.nw20 | with_reducible exact Bk.Blk.nw21 | with_reducible exact Bk.Blk.nw30 | with_reducible exact Bk.Blk.nw31 | with_reducible exact Bk.Blk.nw32 | with_reducible exact Bk.Blk.nw40 | with_reducible exact Bk.Blk.nw41 | with_reducible exact Bk.Blk.nw42 | with_reducible exact Bk.Blk.nw43))
    try (have hn := Bk.Blk.later (g := (w).heap.size + 2) hb1 (by first | with_reducible exact Bk.Blk.nw10 | with_reducible exact Bk.Blk.nw20 | with_reducible exact Bk.Blk.nw21 | with_reducible exact Bk.Blk.nw30 | with_reducible exact Bk.Blk.nw31 | with_reducible exact Bk.Blk.nw32 | with_reducible exact Bk.Blk.nw40 | with_reducible exact Bk.Blk.nw41 | with_reducible exact Bk.Blk.nw42 | with_reducible exact Bk.Blk.nw43))
    try (have hn := Bk.Blk.later (g := (w).heap.size + 3) hb1 (by first | with_reducible exact Bk.Blk.nw10 | with_reducible exact Bk.Blk.nw20 | with_reducible exact Bk.Blk.nw21 | with_reducible exact Bk.Blk.nw30 | with_reducible exact Bk.Blk.nw31 | with_reducible exact Bk.Blk.nw32 | with_reducible exact Bk.Blk.nw40 | with_reducible exact Bk.Blk.nw41 | with_reducible exact Bk.Blk.nw42 | with_reducible exact Bk.Blk.nw43))
    clear hb1
    repeat (rename World.cell? w _ = _ => hq; clear hq)
    repeat (rename World.frozen? w _ = _ => hq; clear hq)
    repeat (rename Bk.Blk w1 _ _ _ => hq; (first | (have _k0 := (hq).c0; have _m0 := (hq).f0) | skip); (first | (have _k1 := (hq).c1; have _m1 := (hq).f1) | skip); (first | (have _k2 := (hq).c2; have _m2 := (hq).f2) | skip); (first | (have _k3 := (hq).c3; have _m3 := (hq).f3) | skip); have _z := (hq).lt; have hk := Bk.Kept.mk hq; clear hq)
    repeat (rename Bk.Kept (Bk.Blk w1 _ _ _) => hq; have hq' := hq.out; clear hq)
    refine Reg.region_alloc 7 6 7 (.cells #[.int .i64 0, .int .u64 0] 24) [(5, 7)] (by kernel_rfl) (by kernel_rfl) (by kernel_rfl) (fun d _ _ _ _ h => by cases d <;> exact h) _ rfl rfl rfl (fun ρ W => by simp [go_sem, Reg.ptr]) ?_
    simp only [Reg.edges, Reg.edge]
    have key := Bk.key0 (W := w1)
    repeat (rename Bk.Blk w1 _ _ _ => hq; (first | replace key := Bk.kadd key (hq).gall1 | replace key := Bk.kadd key (hq).gall2 | replace key := Bk.kadd key (hq).gall3 | replace key := Bk.kadd key (hq).gall4 | replace key := Bk.kadd key (hq).gall5 | replace key := Bk.kadd key (hq).gall6 | replace key := Bk.kadd key (hq).gall7 | replace key := Bk.kadd key (hq).gall8 | replace key := Bk.kadd key (hq).gall9 | replace key := Bk.kadd key (hq).gall10 | replace key := Bk.kadd key (hq).gall11 | replace key := Bk.kadd key (hq).gall12 | replace key := Bk.kadd key (hq).gall13 | replace key := Bk.kadd key (hq).gall14 | replace key := Bk.kadd key (hq).gall15 | replace key := Bk.kadd key (hq).gall16 | replace key := Bk.kadd key (hq).gall17 | replace key := Bk.kadd key (hq).gall18 | replace key := Bk.kadd key (hq).gall19 | replace key := Bk.kadd key (hq).gall20 | skip); have hk := Bk.Kept.mk hq; clear hq)
    repeat (rename Bk.Kept (Bk.Blk w1 _ _ _) => hq; have hq' := hq.out; clear hq)
    apply Exists.intro
    refine ⟨?_, ?_⟩
    · (intro C hC; simp only [Reg.blank, List.take_succ_cons, List.take_zero]; have kk := key C hC; (try have _a := kk.1.1); (try have _a := kk.1.2.1); (try have _a := kk.1.2.2.1); (try have _a := kk.2.1.1); (try have _a := kk.2.1.2.1); (try have _a := kk.2.1.2.2.1); (try have _a := kk.2.2.1.1); (try have _a := kk.2.2.1.2.1); (try have _a := kk.2.2.1.2.2.1); (try have _a := kk.2.2.2.1.1); (try have _a := kk.2.2.2.1.2.1); (try have _a := kk.2.2.2.1.2.2.1); (try have _a := kk.2.2.2.2.1.1); (try have _a := kk.2.2.2.2.1.2.1); (try have _a := kk.2.2.2.2.1.2.2.1); (try have _a := kk.2.2.2.2.2.1.1); (try have _a := kk.2.2.2.2.2.1.2.1); (try have _a := kk.2.2.2.2.2.1.2.2.1); (try have _a := kk.2.2.2.2.2.2.1.1); (try have _a := kk.2.2.2.2.2.2.1.2.1); (try have _a := kk.2.2.2.2.2.2.1.2.2.1); (try have _a := kk.2.2.2.2.2.2.2.1.1); (try have _a := kk.2.2.2.2.2.2.2.1.2.1); (try have _a := kk.2.2.2.2.2.2.2.1.2.2.1); (try have _a := kk.2.2.2.2.2.2.2.2.1.1); (try have _a := kk.2.2.2.2.2.2.2.2.1.2.1); (try have _a := kk.2.2.2.2.2.2.2.2.1.2.2.1); (try have _a := kk.2.2.2.2.2.2.2.2.2.1.1); (try have _a := kk.2.2.2.2.2.2.2.2.2.1.2.1); (try have _a := kk.2.2.2.2.2.2.2.2.2.1.2.2.1); (iterate 7 (first | go_big_quiet_skip | (go_big_quiet_want; (first | (go_big_quiet_op; go_big_quiet_on) | (apply Reg.quiet_run; (intro W hW; have hI : Bk.In C W := hW; go_simp; (first | done | rfl | exact ⟨rfl, rfl⟩ )); (simp only [Act.put, List.setIfInBounds_toArray, List.set_cons_zero, List.set_cons_succ]; go_big_quiet_on)) | (apply Reg.quiet_call; (intro W hW; go_simp; (first | done | rfl | exact ⟨rfl, rfl⟩)); (intro W hW; (first | (go_at_call 21; exact hC.call hW (HO.out _ _ (by unfold I64; omega))) | (go_at_call 28; exact hC.call hW (HU.out _)))); (simp only [Act.put, List.setIfInBounds_toArray, List.set_cons_zero, List.set_cons_succ]; go_big_quiet_on)))))); exact wpQuiet_nil rfl)
    clear key
    intro W w2 hW hb
    have hW2 := Reg.alc_back hW hb
    have hn := Bk.Blk.made hb
    have k2 := Below.size hW
    have b2 := bl2 hW2 (by repeat (first | assumption | exact Below.refl _ _ | refine Below.setCell ?_ (by first | exact Nat.le_refl _ | (simp; done) | (simp; omega) | omega) _ | refine Below.alloc ?_ (by first | exact Nat.le_refl _ | (simp; done) | (simp; omega) | omega) _ | refine Below.drew ?_ | exact Nat.le_refl _))
    have z2 := b2.size
    repeat (rename Bk.Blk w1 _ _ _ => hq; (first | (have hq' := Bk.Blk.later hW2 hq) | skip); clear hq)
    clear hb hW hW2
    repeat (rename World.cell? w1 _ = _ => hq; clear hq)
    repeat (rename World.frozen? w1 _ = _ => hq; clear hq)
    repeat (rename Bk.Blk w2 _ _ _ => hq; (first | (have _k0 := (hq).c0; have _m0 := (hq).f0) | skip); (first | (have _k1 := (hq).c1; have _m1 := (hq).f1) | skip); (first | (have _k2 := (hq).c2; have _m2 := (hq).f2) | skip); (first | (have _k3 := (hq).c3; have _m3 := (hq).f3) | skip); have _z := (hq).lt; have hk := Bk.Kept.mk hq; clear hq)
    repeat (rename Bk.Kept (Bk.Blk w2 _ _ _) => hq; have hq' := hq.out; clear hq)
    simp only [List.drop_succ_cons, List.drop_zero, Act.put, List.setIfInBounds_toArray, List.set_cons_zero, List.set_cons_succ, Reg.ptr]
    generalize W.heap.size = g2 at *
    go_wp2_with fail
    have b3 : Below w.heap.size w (((w2).setCell ⟨g2, 0, none⟩ (.int .i64 (hi y))).setCell ⟨g2, 1, none⟩ (.int .u64 (lo y))) := (by repeat (first | assumption | exact Below.refl _ _ | refine Below.setCell ?_ (by first | exact Nat.le_refl _ | (simp; done) | (simp; omega) | omega) _ | refine Below.alloc ?_ (by first | exact Nat.le_refl _ | (simp; done) | (simp; omega) | omega) _ | refine Below.drew ?_ | exact Nat.le_refl _))
    have z3 := b3.size
    repeat (rename Bk.Blk w2 _ _ _ => hq; (first | (have hq' := Bk.Blk.carry0 (W := ((w2).setCell ⟨g2, 0, none⟩ (.int .i64 (hi y))).setCell ⟨g2, 1, none⟩ (.int .u64 (lo y))) hq (by (repeat (first | with_reducible refine Bk.Blk.drew ?_ | with_reducible refine Bk.Blk.set_same ?_ | with_reducible refine Bk.Blk.set_ne ?_ (by omega) | with_reducible refine Bk.Blk.alloc ?_)); (with_reducible exact hq))) | (have hq' := Bk.Blk.set2 (u := .int .i64 (hi y)) (v := .int .u64 (lo y)) hq) | skip); clear hq)
    generalize ((w2).setCell ⟨g2, 0, none⟩ (.int .i64 (hi y))).setCell ⟨g2, 1, none⟩ (.int .u64 (lo y)) = w3 at *
    repeat (rename World.cell? w2 _ = _ => hq; clear hq)
    repeat (rename World.frozen? w2 _ = _ => hq; clear hq)
    repeat (rename Bk.Blk w3 _ _ _ => hq; (first | (have _k0 := (hq).c0; have _m0 := (hq).f0) | skip); (first | (have _k1 := (hq).c1; have _m1 := (hq).f1) | skip); (first | (have _k2 := (hq).c2; have _m2 := (hq).f2) | skip); (first | (have _k3 := (hq).c3; have _m3 := (hq).f3) | skip); have _z := (hq).lt; have hk := Bk.Kept.mk hq; clear hq)
    repeat (rename Bk.Kept (Bk.Blk w3 _ _ _) => hq; have hq' := hq.out; clear hq)
    refine (HL.out _ (hS.of (by repeat (first | assumption | exact Below.refl _ _ | refine Below.setCell ?_ (by first | exact Nat.le_refl _ | (simp; done) | (simp; omega) | omega) _ | refine Below.alloc ?_ (by first | exact Nat.le_refl _ | (simp; done) | (simp; omega) | omega) _ | refine Below.drew ?_ | exact Nat.le_refl _)))).mono ?_
    rintro e w6 ⟨rfl, hb6⟩
    have b6 : Below w.heap.size w w6 := bl2 hb6 (by repeat (first | assumption | exact Below.refl _ _ | refine Below.setCell ?_ (by first | exact Nat.le_refl _ | (simp; done) | (simp; omega) | omega) _ | refine Below.alloc ?_ (by first | exact Nat.le_refl _ | (simp; done) | (simp; omega) | omega) _ | refine Below.drew ?_ | exact Nat.le_refl _))
    have z6 := b6.size
    repeat (rename Bk.Blk w3 _ _ _ => hq; (first | (have hq' := Bk.Blk.carry hq hb6 (by (repeat (first | with_reducible refine Bk.Blk.drew ?_ | with_reducible refine Bk.Blk.set_same ?_ | with_reducible refine Bk.Blk.set_ne ?_ (by omega) | with_reducible refine Bk.Blk.alloc ?_)); (with_reducible exact hq))) | (have hq' := Bk.Blk.later hb6 (Bk.Blk.set2 hq)) | skip); clear hq)
    try (have hn := Bk.Blk.later (g := (w3).heap.size) hb6 (by first | with_reducible exact Bk.Blk.nw10 | with_reducible exact Bk.Blk.nw20 | with_reducible exact Bk.Blk.nw21 | with_reducible exact Bk.Blk.nw30 | with_reducible exact Bk.Blk.nw31 | with_reducible exact Bk.Blk.nw32 | with_reducible exact Bk.Blk.nw40 | with_reducible exact Bk.Blk.nw41 | with_reducible exact Bk.Blk.nw42 | with_reducible exact Bk.Blk.nw43))
    try (have hn := Bk.Blk.later (g := (w3).heap.size + 1) hb6 (by first | with_reducible exact Bk.Blk.nw10 | with_reducible exact Bk.Blk.nw20 | with_reducible exact Bk.Blk.nw21 | with_reducible exact Bk.Blk.nw30 | with_reducible exact Bk.Blk.nw31 | with_reducible exact Bk.Blk.nw32 | with_reducible exact Bk.Blk.nw40 | with_reducible exact Bk.Blk.nw41 | with_reducible exact Bk.Blk.nw42 | with_reducible exact Bk.Blk.nw43))
    try (have hn := Bk.Blk.later (g := (w3).heap.size + 2) hb6 (by first | with_reducible exact Bk.Blk.nw10 | with_reducible exact Bk.Blk.nw20 | with_reducible exact Bk.Blk.nw21 | with_reducible exact Bk.Blk.nw30 | with_reducible exact Bk.Blk.nw31 | with_reducible exact Bk.Blk.nw32 | with_reducible exact Bk.Blk.nw40 | with_reducible exact Bk.Blk.nw41 | with_reducible exact Bk.Blk.nw42 | with_reducible exact Bk.Blk.nw43))
    try (have hn := Bk.Blk.later (g := (w3).heap.size + 3) hb6 (by first | with_reducible exact Bk.Blk.nw10 | with_reducible exact Bk.Blk.nw20 | with_reducible exact Bk.Blk.nw21 | with_reducible exact Bk.Blk.nw30 | with_reducible exact Bk.Blk.nw31 | with_reducible exact Bk.Blk.nw32 | with_reducible exact Bk.Blk.nw40 | with_reducible exact Bk.Blk.nw41 | with_reducible exact Bk.Blk.nw42 | with_reducible exact Bk.Blk.nw43))
    clear hb6
    repeat (rename World.cell? w3 _ = _ => hq; clear hq)
    repeat (rename World.frozen? w3 _ = _ => hq; clear hq)
    repeat (rename Bk.Blk w6 _ _ _ => hq; (first | (have _k0 := (hq).c0; have _m0 := (hq).f0) | skip); (first | (have _k1 := (hq).c1; have _m1 := (hq).f1) | skip); (first | (have _k2 := (hq).c2; have _m2 := (hq).f2) | skip); (first | (have _k3 := (hq).c3; have _m3 := (hq).f3) | skip); have _z := (hq).lt; have hk := Bk.Kept.mk hq; clear hq)
    repeat (rename Bk.Kept (Bk.Blk w6 _ _ _) => hq; have hq' := hq.out; clear hq)
    go_wp2_with fail
    go_ret
    exact ⟨rfl, (by repeat (first | assumption | exact Below.refl _ _ | refine Below.setCell ?_ (by first | exact Nat.le_refl _ | (simp; done) | (simp; omega) | omega) _ | refine Below.alloc ?_ (by first | exact Nat.le_refl _ | (simp; done) | (simp; omega) | omega) _ | refine Below.drew ?_ | exact Nat.le_refl _))⟩
  · rw [fit_in hx2, ovf_in hx2] at hs
    have HU := Lib.hid hs
    have HV := Lib.hid (fun (W : World) => rvalid_no m W hm)
    clear hs hx hx2 hm
    generalize hy : -x = y at *
    clear hy
    go_enter Tryd.func10, Tryd.ntmps10
    go_wp2_with fail
    have hn := Bk.Blk.nw10 (W := w) (cs := #[.int .i64 (hi x), .int .u64 (lo x)]) (t := 24)
    have hb1 : Below (w).heap.size w ((w).alloc (.cells #[.int .i64 (hi x), .int .u64 (lo x)] 24)) := (Below.refl _ _).alloc (Nat.le_refl _) _
    generalize (w).alloc (.cells #[.int .i64 (hi x), .int .u64 (lo x)] 24) = w1 at *
    have b1 : Below w.heap.size w w1 := bl2 hb1 (by repeat (first | assumption | exact Below.refl _ _ | refine Below.setCell ?_ (by first | exact Nat.le_refl _ | (simp; done) | (simp; omega) | omega) _ | refine Below.alloc ?_ (by first | exact Nat.le_refl _ | (simp; done) | (simp; omega) | omega) _ | refine Below.drew ?_ | exact Nat.le_refl _))
    have z1 := b1.size
    repeat (rename Bk.Blk w _ _ _ => hq; (first | (have hq' := Bk.Blk.carry hq hb1 (by (repeat (first | with_reducible refine Bk.Blk.drew ?_ | with_reducible refine Bk.Blk.set_same ?_ | with_reducible refine Bk.Blk.set_ne ?_ (by omega) | with_reducible refine Bk.Blk.alloc ?_)); (with_reducible exact hq))) | (have hq' := Bk.Blk.later hb1 (Bk.Blk.set2 hq)) | skip); clear hq)
    try (have hn := Bk.Blk.later (g := (w).heap.size) hb1 (by first | with_reducible exact Bk.Blk.nw10 | with_reducible exact Bk.Blk.nw20 | with_reducible exact Bk.Blk.nw21 | with_reducible exact Bk.Blk.nw30 | with_reducible exact Bk.Blk.nw31 | with_reducible exact Bk.Blk.nw32 | with_reducible exact Bk.Blk.nw40 | with_reducible exact Bk.Blk.nw41 | with_reducible exact Bk.Blk.nw42 | with_reducible exact Bk.Blk.nw43))
    try (have hn := Bk.Blk.later (g := (w).heap.size + 1) hb1 (by first | with_reducible exact Bk.Blk.nw10 | with_reducible exact Bk.Blk.nw20 | with_reducible exact Bk.Blk.nw21 | with_reducible exact Bk.Blk.nw30 | with_reducible exact Bk.Blk.nw31 | with_reducible exact Bk.Blk.nw32 | with_reducible exact Bk.Blk.nw40 | with_reducible exact Bk.Blk.nw41 | with_reducible exact Bk.Blk.nw42 | with_reducible exact Bk.Blk.nw43))
    try (have hn := Bk.Blk.later (g := (w).heap.size + 2) hb1 (by first | with_reducible exact Bk.Blk.nw10 | with_reducible exact Bk.Blk.nw20 | with_reducible exact Bk.Blk.nw21 | with_reducible exact Bk.Blk.nw30 | with_reducible exact Bk.Blk.nw31 | with_reducible exact Bk.Blk.nw32 | with_reducible exact Bk.Blk.nw40 | with_reducible exact Bk.Blk.nw41 | with_reducible exact Bk.Blk.nw42 | with_reducible exact Bk.Blk.nw43))
    try (have hn := Bk.Blk.later (g := (w).heap.size + 3) hb1 (by first | with_reducible exact Bk.Blk.nw10 | with_reducible exact Bk.Blk.nw20 | with_reducible exact Bk.Blk.nw21 | with_reducible exact Bk.Blk.nw30 | with_reducible exact Bk.Blk.nw31 | with_reducible exact Bk.Blk.nw32 | with_reducible exact Bk.Blk.nw40 | with_reducible exact Bk.Blk.nw41 | with_reducible exact Bk.Blk.nw42 | with_reducible exact Bk.Blk.nw43))
    clear hb1
    repeat (rename World.cell? w _ = _ => hq; clear hq)
    repeat (rename World.frozen? w _ = _ => hq; clear hq)
    repeat (rename Bk.Blk w1 _ _ _ => hq; (first | (have _k0 := (hq).c0; have _m0 := (hq).f0) | skip); (first | (have _k1 := (hq).c1; have _m1 := (hq).f1) | skip); (first | (have _k2 := (hq).c2; have _m2 := (hq).f2) | skip); (first | (have _k3 := (hq).c3; have _m3 := (hq).f3) | skip); have _z := (hq).lt; have hk := Bk.Kept.mk hq; clear hq)
    repeat (rename Bk.Kept (Bk.Blk w1 _ _ _) => hq; have hq' := hq.out; clear hq)
    refine Reg.region_alloc 7 6 7 (.cells #[.int .i64 0, .int .u64 0] 24) [(5, 7)] (by kernel_rfl) (by kernel_rfl) (by kernel_rfl) (fun d _ _ _ _ h => by cases d <;> exact h) _ rfl rfl rfl (fun ρ W => by simp [go_sem, Reg.ptr]) ?_
    simp only [Reg.edges, Reg.edge]
    have key := Bk.key0 (W := w1)
    repeat (rename Bk.Blk w1 _ _ _ => hq; (first | replace key := Bk.kadd key (hq).gall1 | replace key := Bk.kadd key (hq).gall2 | replace key := Bk.kadd key (hq).gall3 | replace key := Bk.kadd key (hq).gall4 | replace key := Bk.kadd key (hq).gall5 | replace key := Bk.kadd key (hq).gall6 | replace key := Bk.kadd key (hq).gall7 | replace key := Bk.kadd key (hq).gall8 | replace key := Bk.kadd key (hq).gall9 | replace key := Bk.kadd key (hq).gall10 | replace key := Bk.kadd key (hq).gall11 | replace key := Bk.kadd key (hq).gall12 | replace key := Bk.kadd key (hq).gall13 | replace key := Bk.kadd key (hq).gall14 | replace key := Bk.kadd key (hq).gall15 | replace key := Bk.kadd key (hq).gall16 | replace key := Bk.kadd key (hq).gall17 | replace key := Bk.kadd key (hq).gall18 | replace key := Bk.kadd key (hq).gall19 | replace key := Bk.kadd key (hq).gall20 | skip); have hk := Bk.Kept.mk hq; clear hq)
    repeat (rename Bk.Kept (Bk.Blk w1 _ _ _) => hq; have hq' := hq.out; clear hq)
    apply Exists.intro
    refine ⟨?_, ?_⟩
    · (intro C hC; simp only [Reg.blank, List.take_succ_cons, List.take_zero]; have kk := key C hC; (try have _a := kk.1.1); (try have _a := kk.1.2.1); (try have _a := kk.1.2.2.1); (try have _a := kk.2.1.1); (try have _a := kk.2.1.2.1); (try have _a := kk.2.1.2.2.1); (try have _a := kk.2.2.1.1); (try have _a := kk.2.2.1.2.1); (try have _a := kk.2.2.1.2.2.1); (try have _a := kk.2.2.2.1.1); (try have _a := kk.2.2.2.1.2.1); (try have _a := kk.2.2.2.1.2.2.1); (try have _a := kk.2.2.2.2.1.1); (try have _a := kk.2.2.2.2.1.2.1); (try have _a := kk.2.2.2.2.1.2.2.1); (try have _a := kk.2.2.2.2.2.1.1); (try have _a := kk.2.2.2.2.2.1.2.1); (try have _a := kk.2.2.2.2.2.1.2.2.1); (try have _a := kk.2.2.2.2.2.2.1.1); (try have _a := kk.2.2.2.2.2.2.1.2.1); (try have _a := kk.2.2.2.2.2.2.1.2.2.1); (try have _a := kk.2.2.2.2.2.2.2.1.1); (try have _a := kk.2.2.2.2.2.2.2.1.2.1); (try have _a := kk.2.2.2.2.2.2.2.1.2.2.1); (try have _a := kk.2.2.2.2.2.2.2.2.1.1); (try have _a := kk.2.2.2.2.2.2.2.2.1.2.1); (try have _a := kk.2.2.2.2.2.2.2.2.1.2.2.1); (try have _a := kk.2.2.2.2.2.2.2.2.2.1.1); (try have _a := kk.2.2.2.2.2.2.2.2.2.1.2.1); (try have _a := kk.2.2.2.2.2.2.2.2.2.1.2.2.1); (iterate 7 (first | go_big_quiet_skip | (go_big_quiet_want; (first | (go_big_quiet_op; go_big_quiet_on) | (apply Reg.quiet_run; (intro W hW; have hI : Bk.In C W := hW; go_simp; (first | done | rfl | exact ⟨rfl, rfl⟩ )); (simp only [Act.put, List.setIfInBounds_toArray, List.set_cons_zero, List.set_cons_succ]; go_big_quiet_on)) | (apply Reg.quiet_call; (intro W hW; go_simp; (first | done | rfl | exact ⟨rfl, rfl⟩)); (intro W hW; (first | (go_at_call 21; exact hC.call hW (HO.out _ _ (by unfold I64; omega))) | (go_at_call 28; exact hC.call hW (HU.out _)))); (simp only [Act.put, List.setIfInBounds_toArray, List.set_cons_zero, List.set_cons_succ]; go_big_quiet_on)))))); exact wpQuiet_nil rfl)
    clear key
    intro W w2 hW hb
    have hW2 := Reg.alc_back hW hb
    have hn := Bk.Blk.made hb
    have k2 := Below.size hW
    have b2 := bl2 hW2 (by repeat (first | assumption | exact Below.refl _ _ | refine Below.setCell ?_ (by first | exact Nat.le_refl _ | (simp; done) | (simp; omega) | omega) _ | refine Below.alloc ?_ (by first | exact Nat.le_refl _ | (simp; done) | (simp; omega) | omega) _ | refine Below.drew ?_ | exact Nat.le_refl _))
    have z2 := b2.size
    repeat (rename Bk.Blk w1 _ _ _ => hq; (first | (have hq' := Bk.Blk.later hW2 hq) | skip); clear hq)
    clear hb hW hW2
    repeat (rename World.cell? w1 _ = _ => hq; clear hq)
    repeat (rename World.frozen? w1 _ = _ => hq; clear hq)
    repeat (rename Bk.Blk w2 _ _ _ => hq; (first | (have _k0 := (hq).c0; have _m0 := (hq).f0) | skip); (first | (have _k1 := (hq).c1; have _m1 := (hq).f1) | skip); (first | (have _k2 := (hq).c2; have _m2 := (hq).f2) | skip); (first | (have _k3 := (hq).c3; have _m3 := (hq).f3) | skip); have _z := (hq).lt; have hk := Bk.Kept.mk hq; clear hq)
    repeat (rename Bk.Kept (Bk.Blk w2 _ _ _) => hq; have hq' := hq.out; clear hq)
    simp only [List.drop_succ_cons, List.drop_zero, Act.put, List.setIfInBounds_toArray, List.set_cons_zero, List.set_cons_succ, Reg.ptr]
    generalize W.heap.size = g2 at *
    go_wp2_with fail
    have b3 : Below w.heap.size w (((w2).setCell ⟨g2, 0, none⟩ (.int .i64 (hi y))).setCell ⟨g2, 1, none⟩ (.int .u64 (lo y))) := (by repeat (first | assumption | exact Below.refl _ _ | refine Below.setCell ?_ (by first | exact Nat.le_refl _ | (simp; done) | (simp; omega) | omega) _ | refine Below.alloc ?_ (by first | exact Nat.le_refl _ | (simp; done) | (simp; omega) | omega) _ | refine Below.drew ?_ | exact Nat.le_refl _))
    have z3 := b3.size
    repeat (rename Bk.Blk w2 _ _ _ => hq; (first | (have hq' := Bk.Blk.carry0 (W := ((w2).setCell ⟨g2, 0, none⟩ (.int .i64 (hi y))).setCell ⟨g2, 1, none⟩ (.int .u64 (lo y))) hq (by (repeat (first | with_reducible refine Bk.Blk.drew ?_ | with_reducible refine Bk.Blk.set_same ?_ | with_reducible refine Bk.Blk.set_ne ?_ (by omega) | with_reducible refine Bk.Blk.alloc ?_)); (with_reducible exact hq))) | (have hq' := Bk.Blk.set2 (u := .int .i64 (hi y)) (v := .int .u64 (lo y)) hq) | skip); clear hq)
    generalize ((w2).setCell ⟨g2, 0, none⟩ (.int .i64 (hi y))).setCell ⟨g2, 1, none⟩ (.int .u64 (lo y)) = w3 at *
    repeat (rename World.cell? w2 _ = _ => hq; clear hq)
    repeat (rename World.frozen? w2 _ = _ => hq; clear hq)
    repeat (rename Bk.Blk w3 _ _ _ => hq; (first | (have _k0 := (hq).c0; have _m0 := (hq).f0) | skip); (first | (have _k1 := (hq).c1; have _m1 := (hq).f1) | skip); (first | (have _k2 := (hq).c2; have _m2 := (hq).f2) | skip); (first | (have _k3 := (hq).c3; have _m3 := (hq).f3) | skip); have _z := (hq).lt; have hk := Bk.Kept.mk hq; clear hq)
    repeat (rename Bk.Kept (Bk.Blk w3 _ _ _) => hq; have hq' := hq.out; clear hq)
    refine (HV.out _).mono ?_
    rintro e w' ⟨rfl, rfl⟩
    go_wp2_with fail
    refine (HL.out _ (hS.of (by repeat (first | assumption | exact Below.refl _ _ | refine Below.setCell ?_ (by first | exact Nat.le_refl _ | (simp; done) | (simp; omega) | omega) _ | refine Below.alloc ?_ (by first | exact Nat.le_refl _ | (simp; done) | (simp; omega) | omega) _ | refine Below.drew ?_ | exact Nat.le_refl _)))).mono ?_
    rintro e w6 ⟨rfl, hb6⟩
    have b6 : Below w.heap.size w w6 := bl2 hb6 (by repeat (first | assumption | exact Below.refl _ _ | refine Below.setCell ?_ (by first | exact Nat.le_refl _ | (simp; done) | (simp; omega) | omega) _ | refine Below.alloc ?_ (by first | exact Nat.le_refl _ | (simp; done) | (simp; omega) | omega) _ | refine Below.drew ?_ | exact Nat.le_refl _))
    have z6 := b6.size
    repeat (rename Bk.Blk w3 _ _ _ => hq; (first | (have hq' := Bk.Blk.carry hq hb6 (by (repeat (first | with_reducible refine Bk.Blk.drew ?_ | with_reducible refine Bk.Blk.set_same ?_ | with_reducible refine Bk.Blk.set_ne ?_ (by omega) | with_reducible refine Bk.Blk.alloc ?_)); (with_reducible exact hq))) | (have hq' := Bk.Blk.later hb6 (Bk.Blk.set2 hq)) | skip); clear hq)
    try (have hn := Bk.Blk.later (g := (w3).heap.size) hb6 (by first | with_reducible exact Bk.Blk.nw10 | with_reducible exact Bk.Blk.nw20 | with_reducible exact Bk.Blk.nw21 | with_reducible exact Bk.Blk.nw30 | with_reducible exact Bk.Blk.nw31 | with_reducible exact Bk.Blk.nw32 | with_reducible exact Bk.Blk.nw40 | with_reducible exact Bk.Blk.nw41 | with_reducible exact Bk.Blk.nw42 | with_reducible exact Bk.Blk.nw43))
    try (have hn := Bk.Blk.later (g := (w3).heap.size + 1) hb6 (by first | with_reducible exact Bk.Blk.nw10 | with_reducible exact Bk.Blk.nw20 | with_reducible exact Bk.Blk.nw21 | with_reducible exact Bk.Blk.nw30 | with_reducible exact Bk.Blk.nw31 | with_reducible exact Bk.Blk.nw32 | with_reducible exact Bk.Blk.nw40 | with_reducible exact Bk.Blk.nw41 | with_reducible exact Bk.Blk.nw42 | with_reducible exact Bk.Blk.nw43))
    try (have hn := Bk.Blk.later (g := (w3).heap.size + 2) hb6 (by first | with_reducible exact Bk.Blk.nw10 | with_reducible exact Bk.Blk.nw20 | with_reducible exact Bk.Blk.nw21 | with_reducible exact Bk.Blk.nw30 | with_reducible exact Bk.Blk.nw31 | with_reducible exact Bk.Blk.nw32 | with_reducible exact Bk.Blk.nw40 | with_reducible exact Bk.Blk.nw41 | with_reducible exact Bk.Blk.nw42 | with_reducible exact Bk.Blk.nw43))
    try (have hn := Bk.Blk.later (g := (w3).heap.size + 3) hb6 (by first | with_reducible exact Bk.Blk.nw10 | with_reducible exact Bk.Blk.nw20 | with_reducible exact Bk.Blk.nw21 | with_reducible exact Bk.Blk.nw30 | with_reducible exact Bk.Blk.nw31 | with_reducible exact Bk.Blk.nw32 | with_reducible exact Bk.Blk.nw40 | with_reducible exact Bk.Blk.nw41 | with_reducible exact Bk.Blk.nw42 | with_reducible exact Bk.Blk.nw43))
    clear hb6
    repeat (rename World.cell? w3 _ = _ => hq; clear hq)
    repeat (rename World.frozen? w3 _ = _ => hq; clear hq)
    repeat (rename Bk.Blk w6 _ _ _ => hq; (first | (have _k0 := (hq).c0; have _m0 := (hq).f0) | skip); (first | (have _k1 := (hq).c1; have _m1 := (hq).f1) | skip); (first | (have _k2 := (hq).c2; have _m2 := (hq).f2) | skip); (first | (have _k3 := (hq).c3; have _m3 := (hq).f3) | skip); have _z := (hq).lt; have hk := Bk.Kept.mk hq; clear hq)
    repeat (rename Bk.Kept (Bk.Blk w6 _ _ _) => hq; have hq' := hq.out; clear hq)
    go_wp2_with fail
    go_ret
    exact ⟨rfl, (by repeat (first | assumption | exact Below.refl _ _ | refine Below.setCell ?_ (by first | exact Nat.le_refl _ | (simp; done) | (simp; omega) | omega) _ | refine Below.alloc ?_ (by first | exact Nat.le_refl _ | (simp; done) | (simp; omega) | omega) _ | refine Below.drew ?_ | exact Nat.le_refl _))⟩
theorem mirrors_walk (a b n m : Int) (ha : (Lit.int .i64 a).wf = true) (hb : (Lit.int .u64 b).wf = true) (hn : (Lit.int .i64 n).wf = true) (_ : (Lit.int .i64 m).wf = true) (w : World) (hS : Stp w) :
    Calls Tryd.prog 10 #[.agg #[.int .i64 a, .int .u64 b], .int .i64 n, .int .i64 m] w fun e w' => e = .returned (.bool true) ∧ Below w.heap.size w w' := by
  obtain ⟨x, hx, rfl, rfl⟩ := as_wide ha hb
  by_cases hx2 : I128 (-x)
  · by_cases h1 : n < 1
    · exact mirrors_no x n m 2 w hS hx (.inr (.inl ⟨hx2, h1, rfl⟩))
    · by_cases hm : 1 ≤ m ∧ m ≤ 6
      · have hk : rok n m := ⟨by omega, hm.1, hm.2⟩
        have hR := mirr_all (x := x) hk
        have c1 := fun (W : World) (hS : Stp W) => rd_any x n m W hS hx (wf_i64 hn)
        have c2 := fun (W : World) (hS : Stp W) => rd_any (-x) n (mirr m) W hS hx2 (wf_i64 hn)
        unfold DPost at c1 c2
        by_cases h3 : m = 3
        · rw [show mirr m = 4 by unfold mirr; rw [if_pos h3]] at c2 hR
          exact mirrors_f x n m _ _ _ _ w hS hx hx2 (by omega) hm.1 hm.2 h3 hR c1 c2
        · by_cases h4 : m = 4
          · rw [show mirr m = 3 by unfold mirr; rw [if_neg h3, if_pos h4]] at c2 hR
            exact mirrors_c x n m _ _ _ _ w hS hx hx2 (by omega) hm.1 hm.2 h4 hR c1 c2
          · rw [show mirr m = m by unfold mirr; rw [if_neg h3, if_neg h4]] at c2 hR
            exact mirrors_o x n m _ _ _ _ w hS hx hx2 (by omega) hm.1 hm.2 ⟨h3, h4⟩ hR c1 c2
      · exact mirrors_no x n m 3 w hS hx (.inr (.inr ⟨hx2, by omega, by omega, rfl⟩))
  · exact mirrors_no x n m 1 w hS hx (.inl ⟨hx2, rfl⟩)
end Go.Proofs.YtieklkpjlbpnbaaDoor.Sp
