/-
  The contracts of annuity's accepted and interest, and of the reference's Good and interest.
-/
import Derived.Test.YtmdjikmpgckpbaaDoorAnm
import Derived.Test.YtmdjikmpgckpbaaDoorRd3
namespace Go.Proofs.YtmdjikmpgckpbaaDoor.An
open Go.RowKit
open Go.Proofs.YtmdjikmpgckpbaaDoor
open Go.Proofs.YtmdjikmpgckpbaaDoor.Wm Go.Proofs.YtmdjikmpgckpbaaDoor.Wt Go.Proofs.YtmdjikmpgckpbaaDoor.Rd

theorem rd_nonneg {x n m : Int} (hx : 0 ≤ x) (hr : 0 < x % n) : rd x n m = x / n + moreI false (decide (x / n % 2 = 1)) (x % n) n m := by
  rw [rd_step hr, decide_eq_false (by omega)]
theorem acc_yes (p ppm ev m : Int) (w : World) (h : Ok p ppm ev m) : Calls Tryd.prog 65 #[.agg #[.int .i64 ppm, .int .i64 ev, .int .i64 m], .int .i64 p] w fun e w' => e = .returned (.bool true) ∧ Below w.heap.size w w' := by
  obtain ⟨⟨h1, h2⟩, ⟨h3, h4⟩, ⟨h5, h6⟩, ⟨h7, h8⟩⟩ := h
  have b0 := Below.refl w.heap.size w
  go_enter Tryd.func65, Tryd.ntmps65
  go_wp2_with fail
  refine (valid_yes _ _ h7 h8).mono ?_
  rintro e w' ⟨rfl, rfl⟩
  go_wp2_with fail
  go_ret
  exact ⟨rfl, (by repeat (first | assumption | exact Below.refl _ _ | refine Below.setCell ?_ (by first | exact Nat.le_refl _ | (simp; done) | (simp; omega) | omega) _ | refine Below.alloc ?_ (by first | exact Nat.le_refl _ | (simp; done) | (simp; omega) | omega) _ | refine Below.drew ?_ | exact Nat.le_refl _))⟩
theorem acc_no (p ppm ev m : Int) (w : World) (h : ¬ Ok p ppm ev m) : Calls Tryd.prog 65 #[.agg #[.int .i64 ppm, .int .i64 ev, .int .i64 m], .int .i64 p] w fun e w' => e = .returned (.bool false) ∧ Below w.heap.size w w' := by
  unfold Ok at h
  have b0 := Below.refl w.heap.size w
  by_cases t0 : p < 0
  · clear h
    go_enter Tryd.func65, Tryd.ntmps65
    go_wp2_with fail
    go_ret
    exact ⟨rfl, (by repeat (first | assumption | exact Below.refl _ _ | refine Below.setCell ?_ (by first | exact Nat.le_refl _ | (simp; done) | (simp; omega) | omega) _ | refine Below.alloc ?_ (by first | exact Nat.le_refl _ | (simp; done) | (simp; omega) | omega) _ | refine Below.drew ?_ | exact Nat.le_refl _))⟩
  have s0 : 0 ≤ p := by omega
  clear t0
  by_cases t1 : 1000000000000 < p
  · clear h
    go_enter Tryd.func65, Tryd.ntmps65
    go_wp2_with fail
    go_ret
    exact ⟨rfl, (by repeat (first | assumption | exact Below.refl _ _ | refine Below.setCell ?_ (by first | exact Nat.le_refl _ | (simp; done) | (simp; omega) | omega) _ | refine Below.alloc ?_ (by first | exact Nat.le_refl _ | (simp; done) | (simp; omega) | omega) _ | refine Below.drew ?_ | exact Nat.le_refl _))⟩
  have s1 : p ≤ 1000000000000 := by omega
  clear t1
  by_cases t2 : ppm < 0
  · clear h
    go_enter Tryd.func65, Tryd.ntmps65
    go_wp2_with fail
    go_ret
    exact ⟨rfl, (by repeat (first | assumption | exact Below.refl _ _ | refine Below.setCell ?_ (by first | exact Nat.le_refl _ | (simp; done) | (simp; omega) | omega) _ | refine Below.alloc ?_ (by first | exact Nat.le_refl _ | (simp; done) | (simp; omega) | omega) _ | refine Below.drew ?_ | exact Nat.le_refl _))⟩
  have s2 : 0 ≤ ppm := by omega
  clear t2
  by_cases t3 : 1000000 < ppm
  · clear h
    go_enter Tryd.func65, Tryd.ntmps65
    go_wp2_with fail
    go_ret
    exact ⟨rfl, (by repeat (first | assumption | exact Below.refl _ _ | refine Below.setCell ?_ (by first | exact Nat.le_refl _ | (simp; done) | (simp; omega) | omega) _ | refine Below.alloc ?_ (by first | exact Nat.le_refl _ | (simp; done) | (simp; omega) | omega) _ | refine Below.drew ?_ | exact Nat.le_refl _))⟩
  have s3 : ppm ≤ 1000000 := by omega
  clear t3
  by_cases t4 : ev < 1
  · clear h
    go_enter Tryd.func65, Tryd.ntmps65
    go_wp2_with fail
    go_ret
    exact ⟨rfl, (by repeat (first | assumption | exact Below.refl _ _ | refine Below.setCell ?_ (by first | exact Nat.le_refl _ | (simp; done) | (simp; omega) | omega) _ | refine Below.alloc ?_ (by first | exact Nat.le_refl _ | (simp; done) | (simp; omega) | omega) _ | refine Below.drew ?_ | exact Nat.le_refl _))⟩
  have s4 : 1 ≤ ev := by omega
  clear t4
  by_cases t5 : 12 < ev
  · clear h
    go_enter Tryd.func65, Tryd.ntmps65
    go_wp2_with fail
    go_ret
    exact ⟨rfl, (by repeat (first | assumption | exact Below.refl _ _ | refine Below.setCell ?_ (by first | exact Nat.le_refl _ | (simp; done) | (simp; omega) | omega) _ | refine Below.alloc ?_ (by first | exact Nat.le_refl _ | (simp; done) | (simp; omega) | omega) _ | refine Below.drew ?_ | exact Nat.le_refl _))⟩
  have s5 : ev ≤ 12 := by omega
  clear t5
  have hm : m < 1 ∨ 6 < m := by omega
  clear h
  go_enter Tryd.func65, Tryd.ntmps65
  go_wp2_with fail
  refine (valid_no _ _ hm).mono ?_
  rintro e w' ⟨rfl, rfl⟩
  go_wp2_with fail
  go_ret
  exact ⟨rfl, (by repeat (first | assumption | exact Below.refl _ _ | refine Below.setCell ?_ (by first | exact Nat.le_refl _ | (simp; done) | (simp; omega) | omega) _ | refine Below.alloc ?_ (by first | exact Nat.le_refl _ | (simp; done) | (simp; omega) | omega) _ | refine Below.drew ?_ | exact Nat.le_refl _))⟩
theorem rgd_yes (p ppm ev m : Int) (w : World) (h : Ok p ppm ev m) : Calls Tryd.prog 69 #[.int .i64 p, .int .i64 ppm, .int .i64 ev, .int .i64 m] w fun e w' => e = .returned (.bool true) ∧ w = w' := by
  obtain ⟨⟨h1, h2⟩, ⟨h3, h4⟩, ⟨h5, h6⟩, ⟨h7, h8⟩⟩ := h
  have b0 := Below.refl w.heap.size w
  go_enter Tryd.func69, Tryd.ntmps69
  go_wp2_with fail
  refine (rvalid_yes _ _ h7 h8).mono ?_
  rintro e w' ⟨rfl, rfl⟩
  go_wp2_with fail
  go_ret
  exact ⟨rfl, rfl⟩
theorem rgd_no (p ppm ev m : Int) (w : World) (h : ¬ Ok p ppm ev m) : Calls Tryd.prog 69 #[.int .i64 p, .int .i64 ppm, .int .i64 ev, .int .i64 m] w fun e w' => e = .returned (.bool false) ∧ w = w' := by
  unfold Ok at h
  have b0 := Below.refl w.heap.size w
  by_cases t0 : p < 0
  · clear h
    go_enter Tryd.func69, Tryd.ntmps69
    go_wp2_with fail
    go_ret
    exact ⟨rfl, rfl⟩
  have s0 : 0 ≤ p := by omega
  clear t0
  by_cases t1 : 1000000000000 < p
  · clear h
    go_enter Tryd.func69, Tryd.ntmps69
    go_wp2_with fail
    go_ret
    exact ⟨rfl, rfl⟩
  have s1 : p ≤ 1000000000000 := by omega
  clear t1
  by_cases t2 : ppm < 0
  · clear h
    go_enter Tryd.func69, Tryd.ntmps69
    go_wp2_with fail
    go_ret
    exact ⟨rfl, rfl⟩
  have s2 : 0 ≤ ppm := by omega
  clear t2
  by_cases t3 : 1000000 < ppm
  · clear h
    go_enter Tryd.func69, Tryd.ntmps69
    go_wp2_with fail
    go_ret
    exact ⟨rfl, rfl⟩
  have s3 : ppm ≤ 1000000 := by omega
  clear t3
  by_cases t4 : ev < 1
  · clear h
    go_enter Tryd.func69, Tryd.ntmps69
    go_wp2_with fail
    go_ret
    exact ⟨rfl, rfl⟩
  have s4 : 1 ≤ ev := by omega
  clear t4
  by_cases t5 : 12 < ev
  · clear h
    go_enter Tryd.func69, Tryd.ntmps69
    go_wp2_with fail
    go_ret
    exact ⟨rfl, rfl⟩
  have s5 : ev ≤ 12 := by omega
  clear t5
  have hm : m < 1 ∨ 6 < m := by omega
  clear h
  go_enter Tryd.func69, Tryd.ntmps69
  go_wp2_with fail
  refine (rvalid_no _ _ hm).mono ?_
  rintro e w' ⟨rfl, rfl⟩
  go_wp2_with fail
  go_ret
  exact ⟨rfl, rfl⟩

theorem int_fit {c m p : Int} (hc : Rate c) (h0 : 0 ≤ p) (h1 : p ≤ 1000000000000) (hm : 1 ≤ m ∧ m ≤ 6) : rdV (p * c) 12000000 m = intr c m p ∧ rdE (p * c) 12000000 m = 0 := by
  have hb := intr_bd (m := m) hc h0 h1
  have hk : rok 12000000 m := ⟨by omega, hm⟩
  have hi : I64 (rd (p * c) 12000000 m) := by unfold intr at hb; unfold I64; omega
  rw [(rd_yes hk).1, (rd_yes hk).2, show iin (rd (p * c) 12000000 m) = true from decide_eq_true hi]
  exact ⟨if_pos hi, rfl⟩
set_option maxHeartbeats 2000000 in
theorem int_c (p ppm ev m c : Int) (w : World) (hS : Stp w) (hc : Rate c) (hcw : IntKind.i64.wrap (ppm * ev) = c) (p0 : 0 ≤ p) (p1 : p ≤ 1000000000000) (m16 : 1 ≤ m ∧ m ≤ 6) : Calls Tryd.prog 68 #[.agg #[.int .i64 ppm, .int .i64 ev, .int .i64 m], .int .i64 p] w fun e w' => e = .returned (.int .i64 (intr c m p)) ∧ Below w.heap.size w w' := by
  have hf := int_fit hc p0 p1 m16
  have hc64 : I64 c := by obtain ⟨a, b⟩ := hc; unfold I64; omega
  have hp := prod_bd hc p0 p1
  have HM := Lib.hid (fun W => mul_any p c W (by unfold I64; omega) hc64)
  have hd := fun (W : World) (hS : Stp W) => rd_any (p * c) 12000000 m W hS (by unfold I128; omega) (by unfold I64; omega)
  unfold DPost at hd
  rw [hf.1, hf.2] at hd
  have HD := Lib.hid hd
  clear hd hf hc hc64 hp
  generalize intr c m p = v at *
  generalize p * c = z at *
  have b0 := Below.refl w.heap.size w
  go_enter Tryd.func68, Tryd.ntmps68
  go_wp2_with fail
  have hn := Bk.Blk.nw10 (W := w) (cs := #[.int .i64 ppm, .int .i64 ev, .int .i64 m]) (t := 64)
  have hb1 : Below (w).heap.size w ((w).alloc (.cells #[.int .i64 ppm, .int .i64 ev, .int .i64 m] 64)) := (Below.refl _ _).alloc (Nat.le_refl _) _
  generalize (w).alloc (.cells #[.int .i64 ppm, .int .i64 ev, .int .i64 m] 64) = w1 at *
  have b1 : Below w.heap.size w w1 := bl2 hb1 (by repeat (first | assumption | exact Below.refl _ _ | refine Below.setCell ?_ (by first | exact Nat.le_refl _ | (simp; done) | (simp; omega) | omega) _ | refine Below.alloc ?_ (by first | exact Nat.le_refl _ | (simp; done) | (simp; omega) | omega) _ | refine Below.drew ?_ | exact Nat.le_refl _))
  have z1 := b1.size
  repeat (rename Bk.Blk w _ _ _ => hq; (first | (have hq' := Bk.Blk.carry hq hb1 (by (repeat (first | with_reducible refine Bk.Blk.drew ?_ | with_reducible refine Bk.Blk.set_same ?_ | with_reducible refine Bk.Blk.set_ne ?_ (by omega) | with_reducible refine Bk.Blk.alloc ?_)); (with_reducible exact hq))) | (have hq' := Bk.Blk.later hb1 (Bk.Blk.set2 hq)) | skip); clear hq)
  try (have hn := Bk.Blk.later (g := (w).heap.size) hb1 (by first | with_reducible exact Bk.Blk.nw10 | with_reducible exact Bk.Blk.nw20 | with_reducible exact Bk.Blk.nw21 | with_reducible exact Bk.Blk.nw30 | with_reducible exact Bk.Blk.nw31 | with_reducible exact Bk.Blk.nw32 | with_reducible exact Bk.Blk.nw40 | with_reducible exact Bk.Blk.nw41 | with_reducible exact Bk.Blk.nw42 | with_reducible exact Bk.Blk.nw43))
  try (have hn := Bk.Blk.later (g := (w).heap.size + 1) hb1 (by first | with_reducible exact Bk.Blk.nw10 | with_reducible exact Bk.Blk.nw20 | with_reducible exact Bk.Blk.nw21 | with_reducible exact Bk.Blk.nw30 | with_reducible exact Bk.Blk.nw31 | with_reducible exact Bk.Blk.nw32 | with_reducible exact Bk.Blk.nw40 | with_reducible exact Bk.Blk.nw41 | with_reducible exact Bk.Blk.nw42 | with_reducible exact Bk.Blk.nw43))
  try (have hn := Bk.Blk.later (g := (w).heap.size + 2) hb1 (by first | with_reducible exact Bk.Blk.nw10 | with_reducible exact Bk.Blk.nw20 | with_reducible exact Bk.Blk.nw21 | with_reducible exact Bk.Blk.nw30 | with_reducible exact Bk.Blk.nw31 | with_reducible exact Bk.Blk.nw32 | with_reducible exact Bk.Blk.nw40 | with_reducible exact Bk.Blk.nw41 | with_reducible exact Bk.Blk.nw42 | with_reducible exact Bk.Blk.nw43))
  try (have hn := Bk.Blk.later (g := (w).heap.size + 3) hb1 (by first | with_reducible exact Bk.Blk.nw10 | with_reducible exact Bk.Blk.nw20 | with_reducible exact Bk.Blk.nw21 | with_reducible exact Bk.Blk.nw30 | with_reducible exact Bk.Blk.nw31 | with_reducible exact Bk.Blk.nw32 | with_reducible exact Bk.Blk.nw40 | with_reducible exact Bk.Blk.nw41 | with_reducible exact Bk.Blk.nw42 | with_reducible exact Bk.Blk.nw43))
  clear hb1
  repeat (rename World.cell? w _ = _ => hq; clear hq)
  repeat (rename World.frozen? w _ = _ => hq; clear hq)
  repeat (rename Bk.Blk w1 _ _ _ => hq; (first | (have _k0 := (hq).c0; have _m0 := (hq).f0) | skip); (first | (have _k1 := (hq).c1; have _m1 := (hq).f1) | skip); (first | (have _k2 := (hq).c2; have _m2 := (hq).f2) | skip); (first | (have _k3 := (hq).c3; have _m3 := (hq).f3) | skip); have _z := (hq).lt; have hk := Bk.Kept.mk hq; clear hq)
  repeat (rename Bk.Kept (Bk.Blk w1 _ _ _) => hq; have hq' := hq.out; clear hq)
  repeat (rename Bk.Blk w1 _ _ _ => hq; (first | (have _q0 := (hq).q0) | skip); (first | (have _q1 := (hq).q1) | skip); (first | (have _q2 := (hq).q2) | skip); (first | (have _q3 := (hq).q3) | skip); have hk := Bk.Kept.mk hq; clear hq)
  repeat (rename Bk.Kept (Bk.Blk w1 _ _ _) => hq; have hq' := hq.out; clear hq)
  refine Reg.region_quiet (by kernel_rfl) (by kernel_rfl) ?_
  iterate 15 (first | go_big_quiet_skip | (go_big_quiet_want; (first | (go_big_quiet_op; go_big_quiet_on) | (apply Reg.quiet_run; (intro W hW; skip; go_simp; (first | done | rfl | exact ⟨rfl, rfl⟩ )); (simp only [Act.put, List.setIfInBounds_toArray, List.set_cons_zero, List.set_cons_succ]; go_big_quiet_on)) | (apply Reg.quiet_call; (intro W hW; go_simp; (first | done | rfl | exact ⟨rfl, rfl⟩)); (intro W hW; (first  | (go_at_call 82; exact Reg.cls_call hW (HM.out _)) | (go_at_call 81; exact Reg.cls_call hW (HD.out _ (hS.of (bl2 hW b1)))))); (simp only [Act.put, List.setIfInBounds_toArray, List.set_cons_zero, List.set_cons_succ]; go_big_quiet_on)))))
  refine wpQuiet_nil ?_
  intro w2 hW
  have b2 := bl2 hW b1
  clear hW
  go_wp2_with fail
  go_ret
  exact ⟨rfl, (by repeat (first | assumption | exact Below.refl _ _ | refine Below.setCell ?_ (by first | exact Nat.le_refl _ | (simp; done) | (simp; omega) | omega) _ | refine Below.alloc ?_ (by first | exact Nat.le_refl _ | (simp; done) | (simp; omega) | omega) _ | refine Below.drew ?_ | exact Nat.le_refl _))⟩
theorem int_any2 (p ppm ev m : Int) (w : World) (hS : Stp w) (h : Ok p ppm ev m) : Calls Tryd.prog 68 #[.agg #[.int .i64 ppm, .int .i64 ev, .int .i64 m], .int .i64 p] w fun e w' => e = .returned (.int .i64 (intr (ppm * ev) m p)) ∧ Below w.heap.size w w' := by
  have hc := h.rate
  exact int_c p ppm ev m (ppm * ev) w hS hc (by rw [IntKind.wrap_i64]; obtain ⟨a, b⟩ := hc; omega) h.1.1 h.1.2 h.2.2.2

section
variable {p ppm ev x q r : Int} {w : World}
theorem ri_1z (p0 : 0 ≤ p) (p1 : p ≤ 1000000000000) (c0 : 0 ≤ ppm) (c1 : ppm ≤ 1000000) (e0 : 1 ≤ ev) (e1 : ev ≤ 12) (hw1 : IntKind.u64.wrap (p * ppm) = p * ppm) (hw2 : IntKind.u64.wrap (p * ppm * ev) = x) (hx0 : 0 ≤ x) (hq : x / 12000000 = q) (hr : x % 12000000 = r) (hq0 : 0 ≤ q) (hq1 : q ≤ 1000000000000) (hz : (r == 0) = true) : Calls Tryd.prog 71 #[.int .i64 p, .int .i64 ppm, .int .i64 ev, .int .i64 1] w fun e w' => e = .returned (.int .i64 (q)) ∧ w = w' := by
  go_enter Tryd.func71, Tryd.ntmps71
  go_wp2_with fail
  go_ret
  exact ⟨rfl, rfl⟩
theorem ri_1n (p0 : 0 ≤ p) (p1 : p ≤ 1000000000000) (c0 : 0 ≤ ppm) (c1 : ppm ≤ 1000000) (e0 : 1 ≤ ev) (e1 : ev ≤ 12) (hw1 : IntKind.u64.wrap (p * ppm) = p * ppm) (hw2 : IntKind.u64.wrap (p * ppm * ev) = x) (hx0 : 0 ≤ x) (hq : x / 12000000 = q) (hr : x % 12000000 = r) (hq0 : 0 ≤ q) (hq1 : q ≤ 1000000000000) (hz : (r == 0) = false) : Calls Tryd.prog 71 #[.int .i64 p, .int .i64 ppm, .int .i64 ev, .int .i64 1] w fun e w' => e = .returned (.int .i64 (q)) ∧ w = w' := by
  go_enter Tryd.func71, Tryd.ntmps71
  go_wp2_with fail
  go_ret
  exact ⟨rfl, rfl⟩
theorem ri_2z (p0 : 0 ≤ p) (p1 : p ≤ 1000000000000) (c0 : 0 ≤ ppm) (c1 : ppm ≤ 1000000) (e0 : 1 ≤ ev) (e1 : ev ≤ 12) (hw1 : IntKind.u64.wrap (p * ppm) = p * ppm) (hw2 : IntKind.u64.wrap (p * ppm * ev) = x) (hx0 : 0 ≤ x) (hq : x / 12000000 = q) (hr : x % 12000000 = r) (hq0 : 0 ≤ q) (hq1 : q ≤ 1000000000000) (hz : (r == 0) = true) : Calls Tryd.prog 71 #[.int .i64 p, .int .i64 ppm, .int .i64 ev, .int .i64 2] w fun e w' => e = .returned (.int .i64 (q)) ∧ w = w' := by
  go_enter Tryd.func71, Tryd.ntmps71
  go_wp2_with fail
  go_ret
  exact ⟨rfl, rfl⟩
theorem ri_2n (p0 : 0 ≤ p) (p1 : p ≤ 1000000000000) (c0 : 0 ≤ ppm) (c1 : ppm ≤ 1000000) (e0 : 1 ≤ ev) (e1 : ev ≤ 12) (hw1 : IntKind.u64.wrap (p * ppm) = p * ppm) (hw2 : IntKind.u64.wrap (p * ppm * ev) = x) (hx0 : 0 ≤ x) (hq : x / 12000000 = q) (hr : x % 12000000 = r) (hq0 : 0 ≤ q) (hq1 : q ≤ 1000000000000) (hz : (r == 0) = false) : Calls Tryd.prog 71 #[.int .i64 p, .int .i64 ppm, .int .i64 ev, .int .i64 2] w fun e w' => e = .returned (.int .i64 (q + 1)) ∧ w = w' := by
  go_enter Tryd.func71, Tryd.ntmps71
  go_wp2_with fail
  go_ret
  exact ⟨rfl, rfl⟩
theorem ri_3z (p0 : 0 ≤ p) (p1 : p ≤ 1000000000000) (c0 : 0 ≤ ppm) (c1 : ppm ≤ 1000000) (e0 : 1 ≤ ev) (e1 : ev ≤ 12) (hw1 : IntKind.u64.wrap (p * ppm) = p * ppm) (hw2 : IntKind.u64.wrap (p * ppm * ev) = x) (hx0 : 0 ≤ x) (hq : x / 12000000 = q) (hr : x % 12000000 = r) (hq0 : 0 ≤ q) (hq1 : q ≤ 1000000000000) (hz : (r == 0) = true) : Calls Tryd.prog 71 #[.int .i64 p, .int .i64 ppm, .int .i64 ev, .int .i64 3] w fun e w' => e = .returned (.int .i64 (q)) ∧ w = w' := by
  go_enter Tryd.func71, Tryd.ntmps71
  go_wp2_with fail
  go_ret
  exact ⟨rfl, rfl⟩
theorem ri_3n (p0 : 0 ≤ p) (p1 : p ≤ 1000000000000) (c0 : 0 ≤ ppm) (c1 : ppm ≤ 1000000) (e0 : 1 ≤ ev) (e1 : ev ≤ 12) (hw1 : IntKind.u64.wrap (p * ppm) = p * ppm) (hw2 : IntKind.u64.wrap (p * ppm * ev) = x) (hx0 : 0 ≤ x) (hq : x / 12000000 = q) (hr : x % 12000000 = r) (hq0 : 0 ≤ q) (hq1 : q ≤ 1000000000000) (hz : (r == 0) = false) : Calls Tryd.prog 71 #[.int .i64 p, .int .i64 ppm, .int .i64 ev, .int .i64 3] w fun e w' => e = .returned (.int .i64 (q)) ∧ w = w' := by
  go_enter Tryd.func71, Tryd.ntmps71
  go_wp2_with fail
  go_ret
  exact ⟨rfl, rfl⟩
theorem ri_4z (p0 : 0 ≤ p) (p1 : p ≤ 1000000000000) (c0 : 0 ≤ ppm) (c1 : ppm ≤ 1000000) (e0 : 1 ≤ ev) (e1 : ev ≤ 12) (hw1 : IntKind.u64.wrap (p * ppm) = p * ppm) (hw2 : IntKind.u64.wrap (p * ppm * ev) = x) (hx0 : 0 ≤ x) (hq : x / 12000000 = q) (hr : x % 12000000 = r) (hq0 : 0 ≤ q) (hq1 : q ≤ 1000000000000) (hz : (r == 0) = true) : Calls Tryd.prog 71 #[.int .i64 p, .int .i64 ppm, .int .i64 ev, .int .i64 4] w fun e w' => e = .returned (.int .i64 (q)) ∧ w = w' := by
  go_enter Tryd.func71, Tryd.ntmps71
  go_wp2_with fail
  go_ret
  exact ⟨rfl, rfl⟩
theorem ri_4n (p0 : 0 ≤ p) (p1 : p ≤ 1000000000000) (c0 : 0 ≤ ppm) (c1 : ppm ≤ 1000000) (e0 : 1 ≤ ev) (e1 : ev ≤ 12) (hw1 : IntKind.u64.wrap (p * ppm) = p * ppm) (hw2 : IntKind.u64.wrap (p * ppm * ev) = x) (hx0 : 0 ≤ x) (hq : x / 12000000 = q) (hr : x % 12000000 = r) (hq0 : 0 ≤ q) (hq1 : q ≤ 1000000000000) (hz : (r == 0) = false) : Calls Tryd.prog 71 #[.int .i64 p, .int .i64 ppm, .int .i64 ev, .int .i64 4] w fun e w' => e = .returned (.int .i64 (q + 1)) ∧ w = w' := by
  go_enter Tryd.func71, Tryd.ntmps71
  go_wp2_with fail
  go_ret
  exact ⟨rfl, rfl⟩
theorem ri_5z (p0 : 0 ≤ p) (p1 : p ≤ 1000000000000) (c0 : 0 ≤ ppm) (c1 : ppm ≤ 1000000) (e0 : 1 ≤ ev) (e1 : ev ≤ 12) (hw1 : IntKind.u64.wrap (p * ppm) = p * ppm) (hw2 : IntKind.u64.wrap (p * ppm * ev) = x) (hx0 : 0 ≤ x) (hq : x / 12000000 = q) (hr : x % 12000000 = r) (hq0 : 0 ≤ q) (hq1 : q ≤ 1000000000000) (hz : (r == 0) = true) : Calls Tryd.prog 71 #[.int .i64 p, .int .i64 ppm, .int .i64 ev, .int .i64 5] w fun e w' => e = .returned (.int .i64 (q)) ∧ w = w' := by
  go_enter Tryd.func71, Tryd.ntmps71
  go_wp2_with fail
  go_ret
  exact ⟨rfl, rfl⟩
theorem ri_5a (p0 : 0 ≤ p) (p1 : p ≤ 1000000000000) (c0 : 0 ≤ ppm) (c1 : ppm ≤ 1000000) (e0 : 1 ≤ ev) (e1 : ev ≤ 12) (hw1 : IntKind.u64.wrap (p * ppm) = p * ppm) (hw2 : IntKind.u64.wrap (p * ppm * ev) = x) (hx0 : 0 ≤ x) (hq : x / 12000000 = q) (hr : x % 12000000 = r) (hq0 : 0 ≤ q) (hq1 : q ≤ 1000000000000) (hz : (r == 0) = false) (ha : 6000000 < r) : Calls Tryd.prog 71 #[.int .i64 p, .int .i64 ppm, .int .i64 ev, .int .i64 5] w fun e w' => e = .returned (.int .i64 (q + 1)) ∧ w = w' := by
  go_enter Tryd.func71, Tryd.ntmps71
  go_wp2_with fail
  go_ret
  exact ⟨rfl, rfl⟩
theorem ri_5b (p0 : 0 ≤ p) (p1 : p ≤ 1000000000000) (c0 : 0 ≤ ppm) (c1 : ppm ≤ 1000000) (e0 : 1 ≤ ev) (e1 : ev ≤ 12) (hw1 : IntKind.u64.wrap (p * ppm) = p * ppm) (hw2 : IntKind.u64.wrap (p * ppm * ev) = x) (hx0 : 0 ≤ x) (hq : x / 12000000 = q) (hr : x % 12000000 = r) (hq0 : 0 ≤ q) (hq1 : q ≤ 1000000000000) (hz : (r == 0) = false) (ha : r ≤ 6000000) (hb : (r == 6000000) = false) : Calls Tryd.prog 71 #[.int .i64 p, .int .i64 ppm, .int .i64 ev, .int .i64 5] w fun e w' => e = .returned (.int .i64 (q)) ∧ w = w' := by
  go_enter Tryd.func71, Tryd.ntmps71
  go_wp2_with fail
  go_ret
  exact ⟨rfl, rfl⟩
theorem ri_5c (p0 : 0 ≤ p) (p1 : p ≤ 1000000000000) (c0 : 0 ≤ ppm) (c1 : ppm ≤ 1000000) (e0 : 1 ≤ ev) (e1 : ev ≤ 12) (hw1 : IntKind.u64.wrap (p * ppm) = p * ppm) (hw2 : IntKind.u64.wrap (p * ppm * ev) = x) (hx0 : 0 ≤ x) (hq : x / 12000000 = q) (hr : x % 12000000 = r) (hq0 : 0 ≤ q) (hq1 : q ≤ 1000000000000) (hz : (r == 0) = false) (ha : r ≤ 6000000) (hb : (r == 6000000) = true) : Calls Tryd.prog 71 #[.int .i64 p, .int .i64 ppm, .int .i64 ev, .int .i64 5] w fun e w' => e = .returned (.int .i64 (q + 1)) ∧ w = w' := by
  go_enter Tryd.func71, Tryd.ntmps71
  go_wp2_with fail
  go_ret
  exact ⟨rfl, rfl⟩
theorem ri_6z (p0 : 0 ≤ p) (p1 : p ≤ 1000000000000) (c0 : 0 ≤ ppm) (c1 : ppm ≤ 1000000) (e0 : 1 ≤ ev) (e1 : ev ≤ 12) (hw1 : IntKind.u64.wrap (p * ppm) = p * ppm) (hw2 : IntKind.u64.wrap (p * ppm * ev) = x) (hx0 : 0 ≤ x) (hq : x / 12000000 = q) (hr : x % 12000000 = r) (hq0 : 0 ≤ q) (hq1 : q ≤ 1000000000000) (hz : (r == 0) = true) : Calls Tryd.prog 71 #[.int .i64 p, .int .i64 ppm, .int .i64 ev, .int .i64 6] w fun e w' => e = .returned (.int .i64 (q)) ∧ w = w' := by
  go_enter Tryd.func71, Tryd.ntmps71
  go_wp2_with fail
  go_ret
  exact ⟨rfl, rfl⟩
theorem ri_6a (p0 : 0 ≤ p) (p1 : p ≤ 1000000000000) (c0 : 0 ≤ ppm) (c1 : ppm ≤ 1000000) (e0 : 1 ≤ ev) (e1 : ev ≤ 12) (hw1 : IntKind.u64.wrap (p * ppm) = p * ppm) (hw2 : IntKind.u64.wrap (p * ppm * ev) = x) (hx0 : 0 ≤ x) (hq : x / 12000000 = q) (hr : x % 12000000 = r) (hq0 : 0 ≤ q) (hq1 : q ≤ 1000000000000) (hz : (r == 0) = false) (ha : 6000000 < r) : Calls Tryd.prog 71 #[.int .i64 p, .int .i64 ppm, .int .i64 ev, .int .i64 6] w fun e w' => e = .returned (.int .i64 (q + 1)) ∧ w = w' := by
  go_enter Tryd.func71, Tryd.ntmps71
  go_wp2_with fail
  go_ret
  exact ⟨rfl, rfl⟩
theorem ri_6b (p0 : 0 ≤ p) (p1 : p ≤ 1000000000000) (c0 : 0 ≤ ppm) (c1 : ppm ≤ 1000000) (e0 : 1 ≤ ev) (e1 : ev ≤ 12) (hw1 : IntKind.u64.wrap (p * ppm) = p * ppm) (hw2 : IntKind.u64.wrap (p * ppm * ev) = x) (hx0 : 0 ≤ x) (hq : x / 12000000 = q) (hr : x % 12000000 = r) (hq0 : 0 ≤ q) (hq1 : q ≤ 1000000000000) (hz : (r == 0) = false) (ha : r ≤ 6000000) (hb : (r == 6000000) = false) : Calls Tryd.prog 71 #[.int .i64 p, .int .i64 ppm, .int .i64 ev, .int .i64 6] w fun e w' => e = .returned (.int .i64 (q)) ∧ w = w' := by
  go_enter Tryd.func71, Tryd.ntmps71
  go_wp2_with fail
  go_ret
  exact ⟨rfl, rfl⟩
theorem ri_6c (p0 : 0 ≤ p) (p1 : p ≤ 1000000000000) (c0 : 0 ≤ ppm) (c1 : ppm ≤ 1000000) (e0 : 1 ≤ ev) (e1 : ev ≤ 12) (hw1 : IntKind.u64.wrap (p * ppm) = p * ppm) (hw2 : IntKind.u64.wrap (p * ppm * ev) = x) (hx0 : 0 ≤ x) (hq : x / 12000000 = q) (hr : x % 12000000 = r) (hq0 : 0 ≤ q) (hq1 : q ≤ 1000000000000) (hz : (r == 0) = false) (ha : r ≤ 6000000) (hb : (r == 6000000) = true) (ho : (q % 2 == 1) = true) : Calls Tryd.prog 71 #[.int .i64 p, .int .i64 ppm, .int .i64 ev, .int .i64 6] w fun e w' => e = .returned (.int .i64 (q + 1)) ∧ w = w' := by
  go_enter Tryd.func71, Tryd.ntmps71
  go_wp2_with fail
  go_ret
  exact ⟨rfl, rfl⟩
theorem ri_6d (p0 : 0 ≤ p) (p1 : p ≤ 1000000000000) (c0 : 0 ≤ ppm) (c1 : ppm ≤ 1000000) (e0 : 1 ≤ ev) (e1 : ev ≤ 12) (hw1 : IntKind.u64.wrap (p * ppm) = p * ppm) (hw2 : IntKind.u64.wrap (p * ppm * ev) = x) (hx0 : 0 ≤ x) (hq : x / 12000000 = q) (hr : x % 12000000 = r) (hq0 : 0 ≤ q) (hq1 : q ≤ 1000000000000) (hz : (r == 0) = false) (ha : r ≤ 6000000) (hb : (r == 6000000) = true) (ho : (q % 2 == 1) = false) : Calls Tryd.prog 71 #[.int .i64 p, .int .i64 ppm, .int .i64 ev, .int .i64 6] w fun e w' => e = .returned (.int .i64 (q)) ∧ w = w' := by
  go_enter Tryd.func71, Tryd.ntmps71
  go_wp2_with fail
  go_ret
  exact ⟨rfl, rfl⟩
end
theorem rint_any2 (p ppm ev m : Int) (w : World) (h : Ok p ppm ev m) : Calls Tryd.prog 71 #[.int .i64 p, .int .i64 ppm, .int .i64 ev, .int .i64 m] w fun e w' => e = .returned (.int .i64 (intr (ppm * ev) m p)) ∧ w = w' := by
  have hc := h.rate
  obtain ⟨⟨p0, p1⟩, ⟨c0, c1⟩, ⟨e0, e1⟩, ⟨m1, m6⟩⟩ := h
  have hx := prod_bd hc p0 p1
  have hpc0 : 0 ≤ p * ppm := Int.mul_nonneg p0 c0
  have hpc1 : p * ppm ≤ 1000000000000 * 1000000 := Int.mul_le_mul p1 c1 c0 (by omega)
  have hw1 : IntKind.u64.wrap (p * ppm) = p * ppm := by rw [IntKind.wrap_u64]; omega
  have hw2 : IntKind.u64.wrap (p * ppm * ev) = p * (ppm * ev) := by rw [Int.mul_assoc, IntKind.wrap_u64]; omega
  unfold intr
  generalize p * (ppm * ev) = x at *
  have hq0 : 0 ≤ x / 12000000 := by omega
  have hq1 : x / 12000000 ≤ 1000000000000 := by omega
  have hm : m = 1 ∨ m = 2 ∨ m = 3 ∨ m = 4 ∨ m = 5 ∨ m = 6 := by omega
  by_cases hz : x % 12000000 = 0
  · rw [rd_exact (show ¬ 0 < x % 12000000 by omega)]
    have hz' : (x % 12000000 == 0) = true := beq_iff_eq.2 hz
    rcases hm with rfl | rfl | rfl | rfl | rfl | rfl
    · exact ri_1z p0 p1 c0 c1 e0 e1 hw1 hw2 hx.1 rfl rfl hq0 hq1 hz'
    · exact ri_2z p0 p1 c0 c1 e0 e1 hw1 hw2 hx.1 rfl rfl hq0 hq1 hz'
    · exact ri_3z p0 p1 c0 c1 e0 e1 hw1 hw2 hx.1 rfl rfl hq0 hq1 hz'
    · exact ri_4z p0 p1 c0 c1 e0 e1 hw1 hw2 hx.1 rfl rfl hq0 hq1 hz'
    · exact ri_5z p0 p1 c0 c1 e0 e1 hw1 hw2 hx.1 rfl rfl hq0 hq1 hz'
    · exact ri_6z p0 p1 c0 c1 e0 e1 hw1 hw2 hx.1 rfl rfl hq0 hq1 hz'
  · rw [rd_nonneg hx.1 (show 0 < x % 12000000 by omega)]
    have hz' : (x % 12000000 == 0) = false := beq_eq_false_iff_ne.2 hz
    rcases hm with rfl | rfl | rfl | rfl | rfl | rfl
    · rw [show moreI false (decide (x / 12000000 % 2 = 1)) (x % 12000000) 12000000 1 = 0 by unfold moreI upB; simp, Int.add_zero]
      exact ri_1n p0 p1 c0 c1 e0 e1 hw1 hw2 hx.1 rfl rfl hq0 hq1 hz'
    · rw [show moreI false (decide (x / 12000000 % 2 = 1)) (x % 12000000) 12000000 2 = 1 by unfold moreI upB; simp]
      exact ri_2n p0 p1 c0 c1 e0 e1 hw1 hw2 hx.1 rfl rfl hq0 hq1 hz'
    · rw [show moreI false (decide (x / 12000000 % 2 = 1)) (x % 12000000) 12000000 3 = 0 by unfold moreI upB; simp, Int.add_zero]
      exact ri_3n p0 p1 c0 c1 e0 e1 hw1 hw2 hx.1 rfl rfl hq0 hq1 hz'
    · rw [show moreI false (decide (x / 12000000 % 2 = 1)) (x % 12000000) 12000000 4 = 1 by unfold moreI upB; simp]
      exact ri_4n p0 p1 c0 c1 e0 e1 hw1 hw2 hx.1 rfl rfl hq0 hq1 hz'
    · by_cases ha : 6000000 < x % 12000000
      · rw [show moreI false (decide (x / 12000000 % 2 = 1)) (x % 12000000) 12000000 5 = 1 by unfold moreI; rw [upB_1 (by omega) (by omega)]; rfl]
        exact ri_5a p0 p1 c0 c1 e0 e1 hw1 hw2 hx.1 rfl rfl hq0 hq1 hz' ha
      · by_cases hb : x % 12000000 = 6000000
        · rw [show moreI false (decide (x / 12000000 % 2 = 1)) (x % 12000000) 12000000 5 = 1 by unfold moreI; rw [upB_5 (by omega)]; rfl]
          exact ri_5c p0 p1 c0 c1 e0 e1 hw1 hw2 hx.1 rfl rfl hq0 hq1 hz' (by omega) (beq_iff_eq.2 hb)
        · rw [show moreI false (decide (x / 12000000 % 2 = 1)) (x % 12000000) 12000000 5 = 0 by unfold moreI; rw [upB_0 (by omega) (by omega)]; rfl, Int.add_zero]
          exact ri_5b p0 p1 c0 c1 e0 e1 hw1 hw2 hx.1 rfl rfl hq0 hq1 hz' (by omega) (beq_eq_false_iff_ne.2 hb)
    · by_cases ha : 6000000 < x % 12000000
      · rw [show moreI false (decide (x / 12000000 % 2 = 1)) (x % 12000000) 12000000 6 = 1 by unfold moreI; rw [upB_1 (by omega) (by omega)]; rfl]
        exact ri_6a p0 p1 c0 c1 e0 e1 hw1 hw2 hx.1 rfl rfl hq0 hq1 hz' ha
      · by_cases hb : x % 12000000 = 6000000
        · by_cases ho : x / 12000000 % 2 = 1
          · rw [show moreI false (decide (x / 12000000 % 2 = 1)) (x % 12000000) 12000000 6 = 1 by unfold moreI; rw [upB_6 (by omega), decide_eq_true ho]; rfl]
            exact ri_6c p0 p1 c0 c1 e0 e1 hw1 hw2 hx.1 rfl rfl hq0 hq1 hz' (by omega) (beq_iff_eq.2 hb) (beq_iff_eq.2 ho)
          · rw [show moreI false (decide (x / 12000000 % 2 = 1)) (x % 12000000) 12000000 6 = 0 by unfold moreI; rw [upB_6 (by omega), decide_eq_false ho]; rfl, Int.add_zero]
            exact ri_6d p0 p1 c0 c1 e0 e1 hw1 hw2 hx.1 rfl rfl hq0 hq1 hz' (by omega) (beq_iff_eq.2 hb) (beq_eq_false_iff_ne.2 ho)
        · rw [show moreI false (decide (x / 12000000 % 2 = 1)) (x % 12000000) 12000000 6 = 0 by unfold moreI; rw [upB_0 (by omega) (by omega)]; rfl, Int.add_zero]
          exact ri_6b p0 p1 c0 c1 e0 e1 hw1 hw2 hx.1 rfl rfl hq0 hq1 hz' (by omega) (beq_eq_false_iff_ne.2 hb)
end Go.Proofs.YtmdjikmpgckpbaaDoor.An
