/-
 The contracts of annuity's accepted and interest, and of the reference's Good and interest.
 The contracts of Rest: annuity's inner one, annuity's, and the reference's; and of annuity's and the reference's Interest.
 The contracts of the reference's Rest and Payment, and of annuity's Payment.
-/
import Derived.Test.YtaanicginfjgdaaGreatDoorAnm
import Derived.Test.YtaanicginfjgdaaGreatDoorRd3
import Derived.Deep.LoopGhost
namespace Go.Proofs.YtaanicginfjgdaaGreatDoor.An
open Go.RowKit
open Go.Proofs.YtaanicginfjgdaaGreatDoor
open Go.Proofs.YtaanicginfjgdaaGreatDoor.Wm Go.Proofs.YtaanicginfjgdaaGreatDoor.Wt Go.Proofs.YtaanicginfjgdaaGreatDoor.Rd

theorem rd_nonneg {x n m : Int} (hx : 0 ≤ x) (hr : 0 < x % n) : rd x n m = x / n + moreI false (decide (x / n % 2 = 1)) (x % n) n m := by
 rw [rd_step hr, decide_eq_false (by omega)]
theorem acc_yes (p ppm ev m : Int) (w : World) (h : Ok p ppm ev m) : Calls Tryz.prog 105 #[.agg #[.int .i64 ppm, .int .i64 ev, .int .i64 m], .int .i64 p] w fun e w' => e = .returned (.bool true) ∧ Below w.heap.size w w' := by
 obtain ⟨⟨h1, h2⟩, ⟨h3, h4⟩, ⟨h5, h6⟩, ⟨h7, h8⟩⟩ := h
 have b0 := Below.refl w.heap.size w
 go_enter Tryz.func105, Tryz.ntmps105
 go_wp2_with fail
 refine (valid_yes _ _ h7 h8).mono ?_
 rintro e w' ⟨rfl, rfl⟩
 go_wp2_with fail
 go_ret
 exact ⟨rfl, Bk.be⟩
theorem acc_no (p ppm ev m : Int) (w : World) (h : ¬ Ok p ppm ev m) : Calls Tryz.prog 105 #[.agg #[.int .i64 ppm, .int .i64 ev, .int .i64 m], .int .i64 p] w fun e w' => e = .returned (.bool false) ∧ Below w.heap.size w w' := by
 unfold Ok at h
 have b0 := Below.refl w.heap.size w
 by_cases t0 : p < 0
 ·clear h
  go_enter Tryz.func105, Tryz.ntmps105
  go_wp2_with fail
  go_ret
  exact ⟨rfl, Bk.be⟩
 have s0 : 0 ≤ p := by omega
 clear t0
 by_cases t1 : 1000000000000 < p
 ·clear h
  go_enter Tryz.func105, Tryz.ntmps105
  go_wp2_with fail
  go_ret
  exact ⟨rfl, Bk.be⟩
 have s1 : p ≤ 1000000000000 := by omega
 clear t1
 by_cases t2 : ppm < 0
 ·clear h
  go_enter Tryz.func105, Tryz.ntmps105
  go_wp2_with fail
  go_ret
  exact ⟨rfl, Bk.be⟩
 have s2 : 0 ≤ ppm := by omega
 clear t2
 by_cases t3 : 1000000 < ppm
 ·clear h
  go_enter Tryz.func105, Tryz.ntmps105
  go_wp2_with fail
  go_ret
  exact ⟨rfl, Bk.be⟩
 have s3 : ppm ≤ 1000000 := by omega
 clear t3
 by_cases t4 : ev < 1
 ·clear h
  go_enter Tryz.func105, Tryz.ntmps105
  go_wp2_with fail
  go_ret
  exact ⟨rfl, Bk.be⟩
 have s4 : 1 ≤ ev := by omega
 clear t4
 by_cases t5 : 12 < ev
 ·clear h
  go_enter Tryz.func105, Tryz.ntmps105
  go_wp2_with fail
  go_ret
  exact ⟨rfl, Bk.be⟩
 have s5 : ev ≤ 12 := by omega
 clear t5
 have hm : m < 1 ∨ 6 < m := by omega
 clear h
 go_enter Tryz.func105, Tryz.ntmps105
 go_wp2_with fail
 refine (valid_no _ _ hm).mono ?_
 rintro e w' ⟨rfl, rfl⟩
 go_wp2_with fail
 go_ret
 exact ⟨rfl, Bk.be⟩
theorem rgd_yes (p ppm ev m : Int) (w : World) (h : Ok p ppm ev m) : Calls Tryz.prog 112 #[.int .i64 p, .int .i64 ppm, .int .i64 ev, .int .i64 m] w fun e w' => e = .returned (.bool true) ∧ w = w' := by
 obtain ⟨⟨h1, h2⟩, ⟨h3, h4⟩, ⟨h5, h6⟩, ⟨h7, h8⟩⟩ := h
 have b0 := Below.refl w.heap.size w
 go_enter Tryz.func112, Tryz.ntmps112
 go_wp2_with fail
 refine (rvalid_yes _ _ h7 h8).mono ?_
 rintro e w' ⟨rfl, rfl⟩
 go_wp2_with fail
 go_ret
 exact ⟨rfl, rfl⟩
theorem rgd_no (p ppm ev m : Int) (w : World) (h : ¬ Ok p ppm ev m) : Calls Tryz.prog 112 #[.int .i64 p, .int .i64 ppm, .int .i64 ev, .int .i64 m] w fun e w' => e = .returned (.bool false) ∧ w = w' := by
 unfold Ok at h
 have b0 := Below.refl w.heap.size w
 by_cases t0 : p < 0
 ·clear h
  go_enter Tryz.func112, Tryz.ntmps112
  go_wp2_with fail
  go_ret
  exact ⟨rfl, rfl⟩
 have s0 : 0 ≤ p := by omega
 clear t0
 by_cases t1 : 1000000000000 < p
 ·clear h
  go_enter Tryz.func112, Tryz.ntmps112
  go_wp2_with fail
  go_ret
  exact ⟨rfl, rfl⟩
 have s1 : p ≤ 1000000000000 := by omega
 clear t1
 by_cases t2 : ppm < 0
 ·clear h
  go_enter Tryz.func112, Tryz.ntmps112
  go_wp2_with fail
  go_ret
  exact ⟨rfl, rfl⟩
 have s2 : 0 ≤ ppm := by omega
 clear t2
 by_cases t3 : 1000000 < ppm
 ·clear h
  go_enter Tryz.func112, Tryz.ntmps112
  go_wp2_with fail
  go_ret
  exact ⟨rfl, rfl⟩
 have s3 : ppm ≤ 1000000 := by omega
 clear t3
 by_cases t4 : ev < 1
 ·clear h
  go_enter Tryz.func112, Tryz.ntmps112
  go_wp2_with fail
  go_ret
  exact ⟨rfl, rfl⟩
 have s4 : 1 ≤ ev := by omega
 clear t4
 by_cases t5 : 12 < ev
 ·clear h
  go_enter Tryz.func112, Tryz.ntmps112
  go_wp2_with fail
  go_ret
  exact ⟨rfl, rfl⟩
 have s5 : ev ≤ 12 := by omega
 clear t5
 have hm : m < 1 ∨ 6 < m := by omega
 clear h
 go_enter Tryz.func112, Tryz.ntmps112
 go_wp2_with fail
 refine (rvalid_no _ _ hm).mono ?_
 rintro e w' ⟨rfl, rfl⟩
 go_wp2_with fail
 go_ret
 exact ⟨rfl, rfl⟩

theorem int_fit {c m p : Int} (hc : Rate c) (h0 : 0 ≤ p) (h1 : p ≤ 1000000000000) (hm : 1 ≤ m ∧ m ≤ 6) : rdV (p * c) 12000000 m = intr c m p ∧ rdE (p * c) 12000000 m = 0 := by
 have hb := intr_bd (m := m) hc h0 h1
 have hk : rok 12000000 m := ⟨by omega, hm⟩
 have hi : I64 (rd (p * c) 12000000 m) := by unfold intr at hb; unfold I64; omega
 rw [(rd_yes hk).1, (rd_yes hk).2, show iin (rd (p * c) 12000000 m) = true from decide_eq_true hi]
 exact ⟨if_pos hi, rfl⟩
set_option maxHeartbeats 2000000 in
theorem int_c (p ppm ev m c : Int) (w : World) (hS : Stp w) (hc : Rate c) (hcw : IntKind.i64.wrap (ppm * ev) = c) (p0 : 0 ≤ p) (p1 : p ≤ 1000000000000) (m16 : 1 ≤ m ∧ m ≤ 6) : Calls Tryz.prog 108 #[.agg #[.int .i64 ppm, .int .i64 ev, .int .i64 m], .int .i64 p] w fun e w' => e = .returned (.int .i64 (intr c m p)) ∧ Below w.heap.size w w' := by
 have hf := int_fit hc p0 p1 m16
 have hc64 : I64 c := by obtain ⟨a, b⟩ := hc; unfold I64; omega
 have hp := prod_bd hc p0 p1
 have HM := Lib.hid (fun W => mul_any p c W (by unfold I64; omega) hc64)
 have hd := fun (W : World) (hS : Stp W) => rd_any (p * c) 12000000 m W hS (by unfold I128; omega) (by unfold I64; omega)
 unfold DPost at hd
 rw [hf.1, hf.2] at hd
 have HD := Lib.hid hd
 clear hd hf hc hc64 hp
 generalize intr c m p = v at *
 generalize p * c = z at *
 have b0 := Below.refl w.heap.size w
 go_enter Tryz.func108, Tryz.ntmps108
 go_wp2_with fail
 have hn := Bk.Blk.nw10 (W := w) (cs := #[.int .i64 ppm, .int .i64 ev, .int .i64 m]) (t := 125)
 have hb1 : Below (w).heap.size w ((w).alloc (.cells #[.int .i64 ppm, .int .i64 ev, .int .i64 m] 125)) := (Below.refl _ _).alloc (Nat.le_refl _) _
 generalize (w).alloc (.cells _ 125) = w1 at *
 have b1 : Below w.heap.size w w1 := bl2 hb1 Bk.be
 have z1 := b1.size
 repeat (rename Bk.Blk w _ _ _ => hq; (first | (have hq' := Bk.Blk.carry hq hb1 (by (repeat (first | with_reducible refine Bk.Blk.drew ?_ | with_reducible refine Bk.Blk.set_same ?_ | with_reducible refine Bk.Blk.set_ne ?_ (by omega) | with_reducible refine Bk.Blk.alloc ?_)); (with_reducible exact hq))) | (have hq' := Bk.Blk.later hb1 (Bk.Blk.set2 hq)) | skip); clear hq)
 try (have hn := Bk.nx ((w).heap.size) hb1)
 try (have hn := Bk.nx ((w).heap.size + 1) hb1)
 try (have hn := Bk.nx ((w).heap.size + 2) hb1)
 try (have hn := Bk.nx ((w).heap.size + 3) hb1)
 clear hb1
 repeat (rename World.cell? w _ = _ => hq; clear hq)
 repeat (rename World.frozen? w _ = _ => hq; clear hq)
 repeat (rename Bk.Blk w1 _ _ _ => hq; (first | (have _k0 := (hq).c0; have _m0 := (hq).f0) | skip); (first | (have _k1 := (hq).c1; have _m1 := (hq).f1) | skip); (first | (have _k2 := (hq).c2; have _m2 := (hq).f2) | skip); (first | (have _k3 := (hq).c3; have _m3 := (hq).f3) | skip); have _z := (hq).lt; have hk := Bk.Kept.mk hq; clear hq)
 repeat (rename Bk.Kept (Bk.Blk w1 _ _ _) => hq; have hq' := hq.out; clear hq)
 repeat (rename Bk.Blk w1 _ _ _ => hq; (first | (have _q0 := (hq).q0) | skip); (first | (have _q1 := (hq).q1) | skip); (first | (have _q2 := (hq).q2) | skip); (first | (have _q3 := (hq).q3) | skip); have hk := Bk.Kept.mk hq; clear hq)
 repeat (rename Bk.Kept (Bk.Blk w1 _ _ _) => hq; have hq' := hq.out; clear hq)
 refine Reg.region_quiet (by kernel_rfl) (by kernel_rfl) ?_
 iterate 15 (first | go_big_quiet_skip | (go_big_quiet_want; (first | (go_big_quiet_op; go_big_quiet_on) | (apply Reg.quiet_run; (intro W hW; skip; go_simp; (first | done | rfl | exact ⟨rfl, rfl⟩ )); (simp only [Act.put, List.setIfInBounds_toArray, List.set_cons_zero, List.set_cons_succ]; go_big_quiet_on)) | (apply Reg.quiet_call; (intro W hW; go_simp; (first | done | rfl | exact ⟨rfl, rfl⟩)); (intro W hW; (first  | (go_at_call 52; exact Reg.cls_call hW (HM.out _)) | (go_at_call 51; exact Reg.cls_call hW (HD.out _ (hS.of (bl2 hW b1)))))); (simp only [Act.put, List.setIfInBounds_toArray, List.set_cons_zero, List.set_cons_succ]; go_big_quiet_on)))))
 refine wpQuiet_nil ?_
 intro w2 hW
 have b2 := bl2 hW b1
 clear hW
 go_wp2_with fail
 go_ret
 exact ⟨rfl, Bk.be⟩
theorem int_any2 (p ppm ev m : Int) (w : World) (hS : Stp w) (h : Ok p ppm ev m) : Calls Tryz.prog 108 #[.agg #[.int .i64 ppm, .int .i64 ev, .int .i64 m], .int .i64 p] w fun e w' => e = .returned (.int .i64 (intr (ppm * ev) m p)) ∧ Below w.heap.size w w' := by
 have hc := h.rate
 exact int_c p ppm ev m (ppm * ev) w hS hc (by rw [IntKind.wrap_i64]; obtain ⟨a, b⟩ := hc; omega) h.1.1 h.1.2 h.2.2.2

section
variable {p ppm ev x q r : Int} {w : World}
theorem ri_1z (p0 : 0 ≤ p) (p1 : p ≤ 1000000000000) (c0 : 0 ≤ ppm) (c1 : ppm ≤ 1000000) (e0 : 1 ≤ ev) (e1 : ev ≤ 12) (hw1 : IntKind.u64.wrap (p * ppm) = p * ppm) (hw2 : IntKind.u64.wrap (p * ppm * ev) = x) (hx0 : 0 ≤ x) (hq : x / 12000000 = q) (hr : x % 12000000 = r) (hq0 : 0 ≤ q) (hq1 : q ≤ 1000000000000) (hz : (r == 0) = true) : Calls Tryz.prog 114 #[.int .i64 p, .int .i64 ppm, .int .i64 ev, .int .i64 1] w fun e w' => e = .returned (.int .i64 (q)) ∧ w = w' := by
 go_enter Tryz.func114, Tryz.ntmps114
 go_wp2_with fail
 go_ret
 exact ⟨rfl, rfl⟩
theorem ri_1n (p0 : 0 ≤ p) (p1 : p ≤ 1000000000000) (c0 : 0 ≤ ppm) (c1 : ppm ≤ 1000000) (e0 : 1 ≤ ev) (e1 : ev ≤ 12) (hw1 : IntKind.u64.wrap (p * ppm) = p * ppm) (hw2 : IntKind.u64.wrap (p * ppm * ev) = x) (hx0 : 0 ≤ x) (hq : x / 12000000 = q) (hr : x % 12000000 = r) (hq0 : 0 ≤ q) (hq1 : q ≤ 1000000000000) (hz : (r == 0) = false) : Calls Tryz.prog 114 #[.int .i64 p, .int .i64 ppm, .int .i64 ev, .int .i64 1] w fun e w' => e = .returned (.int .i64 (q)) ∧ w = w' := by
 go_enter Tryz.func114, Tryz.ntmps114
 go_wp2_with fail
 go_ret
 exact ⟨rfl, rfl⟩
theorem ri_2z (p0 : 0 ≤ p) (p1 : p ≤ 1000000000000) (c0 : 0 ≤ ppm) (c1 : ppm ≤ 1000000) (e0 : 1 ≤ ev) (e1 : ev ≤ 12) (hw1 : IntKind.u64.wrap (p * ppm) = p * ppm) (hw2 : IntKind.u64.wrap (p * ppm * ev) = x) (hx0 : 0 ≤ x) (hq : x / 12000000 = q) (hr : x % 12000000 = r) (hq0 : 0 ≤ q) (hq1 : q ≤ 1000000000000) (hz : (r == 0) = true) : Calls Tryz.prog 114 #[.int .i64 p, .int .i64 ppm, .int .i64 ev, .int .i64 2] w fun e w' => e = .returned (.int .i64 (q)) ∧ w = w' := by
 go_enter Tryz.func114, Tryz.ntmps114
 go_wp2_with fail
 go_ret
 exact ⟨rfl, rfl⟩
theorem ri_2n (p0 : 0 ≤ p) (p1 : p ≤ 1000000000000) (c0 : 0 ≤ ppm) (c1 : ppm ≤ 1000000) (e0 : 1 ≤ ev) (e1 : ev ≤ 12) (hw1 : IntKind.u64.wrap (p * ppm) = p * ppm) (hw2 : IntKind.u64.wrap (p * ppm * ev) = x) (hx0 : 0 ≤ x) (hq : x / 12000000 = q) (hr : x % 12000000 = r) (hq0 : 0 ≤ q) (hq1 : q ≤ 1000000000000) (hz : (r == 0) = false) : Calls Tryz.prog 114 #[.int .i64 p, .int .i64 ppm, .int .i64 ev, .int .i64 2] w fun e w' => e = .returned (.int .i64 (q + 1)) ∧ w = w' := by
 go_enter Tryz.func114, Tryz.ntmps114
 go_wp2_with fail
 go_ret
 exact ⟨rfl, rfl⟩
theorem ri_3z (p0 : 0 ≤ p) (p1 : p ≤ 1000000000000) (c0 : 0 ≤ ppm) (c1 : ppm ≤ 1000000) (e0 : 1 ≤ ev) (e1 : ev ≤ 12) (hw1 : IntKind.u64.wrap (p * ppm) = p * ppm) (hw2 : IntKind.u64.wrap (p * ppm * ev) = x) (hx0 : 0 ≤ x) (hq : x / 12000000 = q) (hr : x % 12000000 = r) (hq0 : 0 ≤ q) (hq1 : q ≤ 1000000000000) (hz : (r == 0) = true) : Calls Tryz.prog 114 #[.int .i64 p, .int .i64 ppm, .int .i64 ev, .int .i64 3] w fun e w' => e = .returned (.int .i64 (q)) ∧ w = w' := by
 go_enter Tryz.func114, Tryz.ntmps114
 go_wp2_with fail
 go_ret
 exact ⟨rfl, rfl⟩
theorem ri_3n (p0 : 0 ≤ p) (p1 : p ≤ 1000000000000) (c0 : 0 ≤ ppm) (c1 : ppm ≤ 1000000) (e0 : 1 ≤ ev) (e1 : ev ≤ 12) (hw1 : IntKind.u64.wrap (p * ppm) = p * ppm) (hw2 : IntKind.u64.wrap (p * ppm * ev) = x) (hx0 : 0 ≤ x) (hq : x / 12000000 = q) (hr : x % 12000000 = r) (hq0 : 0 ≤ q) (hq1 : q ≤ 1000000000000) (hz : (r == 0) = false) : Calls Tryz.prog 114 #[.int .i64 p, .int .i64 ppm, .int .i64 ev, .int .i64 3] w fun e w' => e = .returned (.int .i64 (q)) ∧ w = w' := by
 go_enter Tryz.func114, Tryz.ntmps114
 go_wp2_with fail
 go_ret
 exact ⟨rfl, rfl⟩
theorem ri_4z (p0 : 0 ≤ p) (p1 : p ≤ 1000000000000) (c0 : 0 ≤ ppm) (c1 : ppm ≤ 1000000) (e0 : 1 ≤ ev) (e1 : ev ≤ 12) (hw1 : IntKind.u64.wrap (p * ppm) = p * ppm) (hw2 : IntKind.u64.wrap (p * ppm * ev) = x) (hx0 : 0 ≤ x) (hq : x / 12000000 = q) (hr : x % 12000000 = r) (hq0 : 0 ≤ q) (hq1 : q ≤ 1000000000000) (hz : (r == 0) = true) : Calls Tryz.prog 114 #[.int .i64 p, .int .i64 ppm, .int .i64 ev, .int .i64 4] w fun e w' => e = .returned (.int .i64 (q)) ∧ w = w' := by
 go_enter Tryz.func114, Tryz.ntmps114
 go_wp2_with fail
 go_ret
 exact ⟨rfl, rfl⟩
theorem ri_4n (p0 : 0 ≤ p) (p1 : p ≤ 1000000000000) (c0 : 0 ≤ ppm) (c1 : ppm ≤ 1000000) (e0 : 1 ≤ ev) (e1 : ev ≤ 12) (hw1 : IntKind.u64.wrap (p * ppm) = p * ppm) (hw2 : IntKind.u64.wrap (p * ppm * ev) = x) (hx0 : 0 ≤ x) (hq : x / 12000000 = q) (hr : x % 12000000 = r) (hq0 : 0 ≤ q) (hq1 : q ≤ 1000000000000) (hz : (r == 0) = false) : Calls Tryz.prog 114 #[.int .i64 p, .int .i64 ppm, .int .i64 ev, .int .i64 4] w fun e w' => e = .returned (.int .i64 (q + 1)) ∧ w = w' := by
 go_enter Tryz.func114, Tryz.ntmps114
 go_wp2_with fail
 go_ret
 exact ⟨rfl, rfl⟩
theorem ri_5z (p0 : 0 ≤ p) (p1 : p ≤ 1000000000000) (c0 : 0 ≤ ppm) (c1 : ppm ≤ 1000000) (e0 : 1 ≤ ev) (e1 : ev ≤ 12) (hw1 : IntKind.u64.wrap (p * ppm) = p * ppm) (hw2 : IntKind.u64.wrap (p * ppm * ev) = x) (hx0 : 0 ≤ x) (hq : x / 12000000 = q) (hr : x % 12000000 = r) (hq0 : 0 ≤ q) (hq1 : q ≤ 1000000000000) (hz : (r == 0) = true) : Calls Tryz.prog 114 #[.int .i64 p, .int .i64 ppm, .int .i64 ev, .int .i64 5] w fun e w' => e = .returned (.int .i64 (q)) ∧ w = w' := by
 go_enter Tryz.func114, Tryz.ntmps114
 go_wp2_with fail
 go_ret
 exact ⟨rfl, rfl⟩
theorem ri_5a (p0 : 0 ≤ p) (p1 : p ≤ 1000000000000) (c0 : 0 ≤ ppm) (c1 : ppm ≤ 1000000) (e0 : 1 ≤ ev) (e1 : ev ≤ 12) (hw1 : IntKind.u64.wrap (p * ppm) = p * ppm) (hw2 : IntKind.u64.wrap (p * ppm * ev) = x) (hx0 : 0 ≤ x) (hq : x / 12000000 = q) (hr : x % 12000000 = r) (hq0 : 0 ≤ q) (hq1 : q ≤ 1000000000000) (hz : (r == 0) = false) (ha : 6000000 < r) : Calls Tryz.prog 114 #[.int .i64 p, .int .i64 ppm, .int .i64 ev, .int .i64 5] w fun e w' => e = .returned (.int .i64 (q + 1)) ∧ w = w' := by
 go_enter Tryz.func114, Tryz.ntmps114
 go_wp2_with fail
 go_ret
 exact ⟨rfl, rfl⟩
theorem ri_5b (p0 : 0 ≤ p) (p1 : p ≤ 1000000000000) (c0 : 0 ≤ ppm) (c1 : ppm ≤ 1000000) (e0 : 1 ≤ ev) (e1 : ev ≤ 12) (hw1 : IntKind.u64.wrap (p * ppm) = p * ppm) (hw2 : IntKind.u64.wrap (p * ppm * ev) = x) (hx0 : 0 ≤ x) (hq : x / 12000000 = q) (hr : x % 12000000 = r) (hq0 : 0 ≤ q) (hq1 : q ≤ 1000000000000) (hz : (r == 0) = false) (ha : r ≤ 6000000) (hb : (r == 6000000) = false) : Calls Tryz.prog 114 #[.int .i64 p, .int .i64 ppm, .int .i64 ev, .int .i64 5] w fun e w' => e = .returned (.int .i64 (q)) ∧ w = w' := by
 go_enter Tryz.func114, Tryz.ntmps114
 go_wp2_with fail
 go_ret
 exact ⟨rfl, rfl⟩
theorem ri_5c (p0 : 0 ≤ p) (p1 : p ≤ 1000000000000) (c0 : 0 ≤ ppm) (c1 : ppm ≤ 1000000) (e0 : 1 ≤ ev) (e1 : ev ≤ 12) (hw1 : IntKind.u64.wrap (p * ppm) = p * ppm) (hw2 : IntKind.u64.wrap (p * ppm * ev) = x) (hx0 : 0 ≤ x) (hq : x / 12000000 = q) (hr : x % 12000000 = r) (hq0 : 0 ≤ q) (hq1 : q ≤ 1000000000000) (hz : (r == 0) = false) (ha : r ≤ 6000000) (hb : (r == 6000000) = true) : Calls Tryz.prog 114 #[.int .i64 p, .int .i64 ppm, .int .i64 ev, .int .i64 5] w fun e w' => e = .returned (.int .i64 (q + 1)) ∧ w = w' := by
 go_enter Tryz.func114, Tryz.ntmps114
 go_wp2_with fail
 go_ret
 exact ⟨rfl, rfl⟩
theorem ri_6z (p0 : 0 ≤ p) (p1 : p ≤ 1000000000000) (c0 : 0 ≤ ppm) (c1 : ppm ≤ 1000000) (e0 : 1 ≤ ev) (e1 : ev ≤ 12) (hw1 : IntKind.u64.wrap (p * ppm) = p * ppm) (hw2 : IntKind.u64.wrap (p * ppm * ev) = x) (hx0 : 0 ≤ x) (hq : x / 12000000 = q) (hr : x % 12000000 = r) (hq0 : 0 ≤ q) (hq1 : q ≤ 1000000000000) (hz : (r == 0) = true) : Calls Tryz.prog 114 #[.int .i64 p, .int .i64 ppm, .int .i64 ev, .int .i64 6] w fun e w' => e = .returned (.int .i64 (q)) ∧ w = w' := by
 go_enter Tryz.func114, Tryz.ntmps114
 go_wp2_with fail
 go_ret
 exact ⟨rfl, rfl⟩
theorem ri_6a (p0 : 0 ≤ p) (p1 : p ≤ 1000000000000) (c0 : 0 ≤ ppm) (c1 : ppm ≤ 1000000) (e0 : 1 ≤ ev) (e1 : ev ≤ 12) (hw1 : IntKind.u64.wrap (p * ppm) = p * ppm) (hw2 : IntKind.u64.wrap (p * ppm * ev) = x) (hx0 : 0 ≤ x) (hq : x / 12000000 = q) (hr : x % 12000000 = r) (hq0 : 0 ≤ q) (hq1 : q ≤ 1000000000000) (hz : (r == 0) = false) (ha : 6000000 < r) : Calls Tryz.prog 114 #[.int .i64 p, .int .i64 ppm, .int .i64 ev, .int .i64 6] w fun e w' => e = .returned (.int .i64 (q + 1)) ∧ w = w' := by
 go_enter Tryz.func114, Tryz.ntmps114
 go_wp2_with fail
 go_ret
 exact ⟨rfl, rfl⟩
theorem ri_6b (p0 : 0 ≤ p) (p1 : p ≤ 1000000000000) (c0 : 0 ≤ ppm) (c1 : ppm ≤ 1000000) (e0 : 1 ≤ ev) (e1 : ev ≤ 12) (hw1 : IntKind.u64.wrap (p * ppm) = p * ppm) (hw2 : IntKind.u64.wrap (p * ppm * ev) = x) (hx0 : 0 ≤ x) (hq : x / 12000000 = q) (hr : x % 12000000 = r) (hq0 : 0 ≤ q) (hq1 : q ≤ 1000000000000) (hz : (r == 0) = false) (ha : r ≤ 6000000) (hb : (r == 6000000) = false) : Calls Tryz.prog 114 #[.int .i64 p, .int .i64 ppm, .int .i64 ev, .int .i64 6] w fun e w' => e = .returned (.int .i64 (q)) ∧ w = w' := by
 go_enter Tryz.func114, Tryz.ntmps114
 go_wp2_with fail
 go_ret
 exact ⟨rfl, rfl⟩
theorem ri_6c (p0 : 0 ≤ p) (p1 : p ≤ 1000000000000) (c0 : 0 ≤ ppm) (c1 : ppm ≤ 1000000) (e0 : 1 ≤ ev) (e1 : ev ≤ 12) (hw1 : IntKind.u64.wrap (p * ppm) = p * ppm) (hw2 : IntKind.u64.wrap (p * ppm * ev) = x) (hx0 : 0 ≤ x) (hq : x / 12000000 = q) (hr : x % 12000000 = r) (hq0 : 0 ≤ q) (hq1 : q ≤ 1000000000000) (hz : (r == 0) = false) (ha : r ≤ 6000000) (hb : (r == 6000000) = true) (ho : (q % 2 == 1) = true) : Calls Tryz.prog 114 #[.int .i64 p, .int .i64 ppm, .int .i64 ev, .int .i64 6] w fun e w' => e = .returned (.int .i64 (q + 1)) ∧ w = w' := by
 go_enter Tryz.func114, Tryz.ntmps114
 go_wp2_with fail
 go_ret
 exact ⟨rfl, rfl⟩
theorem ri_6d (p0 : 0 ≤ p) (p1 : p ≤ 1000000000000) (c0 : 0 ≤ ppm) (c1 : ppm ≤ 1000000) (e0 : 1 ≤ ev) (e1 : ev ≤ 12) (hw1 : IntKind.u64.wrap (p * ppm) = p * ppm) (hw2 : IntKind.u64.wrap (p * ppm * ev) = x) (hx0 : 0 ≤ x) (hq : x / 12000000 = q) (hr : x % 12000000 = r) (hq0 : 0 ≤ q) (hq1 : q ≤ 1000000000000) (hz : (r == 0) = false) (ha : r ≤ 6000000) (hb : (r == 6000000) = true) (ho : (q % 2 == 1) = false) : Calls Tryz.prog 114 #[.int .i64 p, .int .i64 ppm, .int .i64 ev, .int .i64 6] w fun e w' => e = .returned (.int .i64 (q)) ∧ w = w' := by
 go_enter Tryz.func114, Tryz.ntmps114
 go_wp2_with fail
 go_ret
 exact ⟨rfl, rfl⟩
end
theorem rint_any2 (p ppm ev m : Int) (w : World) (h : Ok p ppm ev m) : Calls Tryz.prog 114 #[.int .i64 p, .int .i64 ppm, .int .i64 ev, .int .i64 m] w fun e w' => e = .returned (.int .i64 (intr (ppm * ev) m p)) ∧ w = w' := by
 have hc := h.rate
 obtain ⟨⟨p0, p1⟩, ⟨c0, c1⟩, ⟨e0, e1⟩, ⟨m1, m6⟩⟩ := h
 have hx := prod_bd hc p0 p1
 have hpc0 : 0 ≤ p * ppm := Int.mul_nonneg p0 c0
 have hpc1 : p * ppm ≤ 1000000000000 * 1000000 := Int.mul_le_mul p1 c1 c0 (by omega)
 have hw1 : IntKind.u64.wrap (p * ppm) = p * ppm := by rw [IntKind.wrap_u64]; omega
 have hw2 : IntKind.u64.wrap (p * ppm * ev) = p * (ppm * ev) := by rw [Int.mul_assoc, IntKind.wrap_u64]; omega
 unfold intr
 generalize p * (ppm * ev) = x at *
 have hq0 : 0 ≤ x / 12000000 := by omega
 have hq1 : x / 12000000 ≤ 1000000000000 := by omega
 have hm : m = 1 ∨ m = 2 ∨ m = 3 ∨ m = 4 ∨ m = 5 ∨ m = 6 := by omega
 by_cases hz : x % 12000000 = 0
 ·rw [rd_exact (show ¬ 0 < x % 12000000 by omega)]
  have hz' : (x % 12000000 == 0) = true := beq_iff_eq.2 hz
  rcases hm with rfl | rfl | rfl | rfl | rfl | rfl
  ·exact ri_1z p0 p1 c0 c1 e0 e1 hw1 hw2 hx.1 rfl rfl hq0 hq1 hz'
  ·exact ri_2z p0 p1 c0 c1 e0 e1 hw1 hw2 hx.1 rfl rfl hq0 hq1 hz'
  ·exact ri_3z p0 p1 c0 c1 e0 e1 hw1 hw2 hx.1 rfl rfl hq0 hq1 hz'
  ·exact ri_4z p0 p1 c0 c1 e0 e1 hw1 hw2 hx.1 rfl rfl hq0 hq1 hz'
  ·exact ri_5z p0 p1 c0 c1 e0 e1 hw1 hw2 hx.1 rfl rfl hq0 hq1 hz'
  ·exact ri_6z p0 p1 c0 c1 e0 e1 hw1 hw2 hx.1 rfl rfl hq0 hq1 hz'
 ·rw [rd_nonneg hx.1 (show 0 < x % 12000000 by omega)]
  have hz' : (x % 12000000 == 0) = false := beq_eq_false_iff_ne.2 hz
  rcases hm with rfl | rfl | rfl | rfl | rfl | rfl
  ·rw [show moreI false (decide (x / 12000000 % 2 = 1)) (x % 12000000) 12000000 1 = 0 by unfold moreI upB; simp, Int.add_zero]
   exact ri_1n p0 p1 c0 c1 e0 e1 hw1 hw2 hx.1 rfl rfl hq0 hq1 hz'
  ·rw [show moreI false (decide (x / 12000000 % 2 = 1)) (x % 12000000) 12000000 2 = 1 by unfold moreI upB; simp]
   exact ri_2n p0 p1 c0 c1 e0 e1 hw1 hw2 hx.1 rfl rfl hq0 hq1 hz'
  ·rw [show moreI false (decide (x / 12000000 % 2 = 1)) (x % 12000000) 12000000 3 = 0 by unfold moreI upB; simp, Int.add_zero]
   exact ri_3n p0 p1 c0 c1 e0 e1 hw1 hw2 hx.1 rfl rfl hq0 hq1 hz'
  ·rw [show moreI false (decide (x / 12000000 % 2 = 1)) (x % 12000000) 12000000 4 = 1 by unfold moreI upB; simp]
   exact ri_4n p0 p1 c0 c1 e0 e1 hw1 hw2 hx.1 rfl rfl hq0 hq1 hz'
  ·by_cases ha : 6000000 < x % 12000000
   ·rw [show moreI false (decide (x / 12000000 % 2 = 1)) (x % 12000000) 12000000 5 = 1 by unfold moreI; rw [upB_1 (by omega) (by omega)]; rfl]
    exact ri_5a p0 p1 c0 c1 e0 e1 hw1 hw2 hx.1 rfl rfl hq0 hq1 hz' ha
   ·by_cases hb : x % 12000000 = 6000000
    ·rw [show moreI false (decide (x / 12000000 % 2 = 1)) (x % 12000000) 12000000 5 = 1 by unfold moreI; rw [upB_5 (by omega)]; rfl]
     exact ri_5c p0 p1 c0 c1 e0 e1 hw1 hw2 hx.1 rfl rfl hq0 hq1 hz' (by omega) (beq_iff_eq.2 hb)
    ·rw [show moreI false (decide (x / 12000000 % 2 = 1)) (x % 12000000) 12000000 5 = 0 by unfold moreI; rw [upB_0 (by omega) (by omega)]; rfl, Int.add_zero]
     exact ri_5b p0 p1 c0 c1 e0 e1 hw1 hw2 hx.1 rfl rfl hq0 hq1 hz' (by omega) (beq_eq_false_iff_ne.2 hb)
  ·by_cases ha : 6000000 < x % 12000000
   ·rw [show moreI false (decide (x / 12000000 % 2 = 1)) (x % 12000000) 12000000 6 = 1 by unfold moreI; rw [upB_1 (by omega) (by omega)]; rfl]
    exact ri_6a p0 p1 c0 c1 e0 e1 hw1 hw2 hx.1 rfl rfl hq0 hq1 hz' ha
   ·by_cases hb : x % 12000000 = 6000000
    ·by_cases ho : x / 12000000 % 2 = 1
     ·rw [show moreI false (decide (x / 12000000 % 2 = 1)) (x % 12000000) 12000000 6 = 1 by unfold moreI; rw [upB_6 (by omega), decide_eq_true ho]; rfl]
      exact ri_6c p0 p1 c0 c1 e0 e1 hw1 hw2 hx.1 rfl rfl hq0 hq1 hz' (by omega) (beq_iff_eq.2 hb) (beq_iff_eq.2 ho)
     ·rw [show moreI false (decide (x / 12000000 % 2 = 1)) (x % 12000000) 12000000 6 = 0 by unfold moreI; rw [upB_6 (by omega), decide_eq_false ho]; rfl, Int.add_zero]
      exact ri_6d p0 p1 c0 c1 e0 e1 hw1 hw2 hx.1 rfl rfl hq0 hq1 hz' (by omega) (beq_iff_eq.2 hb) (beq_eq_false_iff_ne.2 ho)
    ·rw [show moreI false (decide (x / 12000000 % 2 = 1)) (x % 12000000) 12000000 6 = 0 by unfold moreI; rw [upB_0 (by omega) (by omega)]; rfl, Int.add_zero]
     exact ri_6b p0 p1 c0 c1 e0 e1 hw1 hw2 hx.1 rfl rfl hq0 hq1 hz' (by omega) (beq_eq_false_iff_ne.2 hb)
end Go.Proofs.YtaanicginfjgdaaGreatDoor.An

namespace Go.Proofs.YtaanicginfjgdaaGreatDoor.An
open Go.RowKit
open Go.Proofs.YtaanicginfjgdaaGreatDoor
open Go.Proofs.YtaanicginfjgdaaGreatDoor.Wm Go.Proofs.YtaanicginfjgdaaGreatDoor.Wt Go.Proofs.YtaanicginfjgdaaGreatDoor.Rd

def rvA (o : Option Int) : Int := match o with | some n => n | none => 0
theorem int_eq {a b : Int} (h : a = b) : Value.int .i64 a = .int .i64 b := by rw [h]
def TLoop (w : World) (p ppm ev m pay : Int) (cnt : Nat) (g : Nat) (v1 v11 : Value) (wr : World) : Prop := ∃ (k : Nat) (q : Int), k + g = cnt ∧ v1 = .int .i64 q ∧ v11 = .int .i64 k ∧ 0 ≤ q ∧ q ≤ 1000000000000 ∧ restA (ppm * ev) m pay cnt p = restA (ppm * ev) m pay g q ∧
 Bk.Blk wr w.heap.size #[.int .i64 ppm, .int .i64 ev, .int .i64 m] 125 ∧ Below w.heap.size w wr
def RLoop (p ppm ev m pay : Int) (cnt : Nat) (g : Nat) (v0 v14 : Value) : Prop := ∃ (k : Nat) (q : Int), k + g = cnt ∧ v0 = .int .i64 q ∧ v14 = .int .i64 k ∧ 0 ≤ q ∧ q ≤ 1000000000000 ∧ restA (ppm * ev) m pay cnt p = restA (ppm * ev) m pay g q
theorem restA_over {c m pay q : Int} {g : Nat} (h : 1000000000000 < stepA c m pay q) : restA c m pay (g + 1) q = none := by unfold restA; rw [if_pos h]
theorem restA_on {c m pay q : Int} {g : Nat} (h : stepA c m pay q ≤ 1000000000000) : restA c m pay (g + 1) q = restA c m pay g (stepA c m pay q) := by
 conv => lhs; unfold restA
 rw [if_neg (by omega)]
theorem stepA_neg {c m pay q : Int} (h : q + intr c m q - pay ≤ 0) : stepA c m pay q = 0 := by unfold stepA; split <;> omega
theorem stepA_pos {c m pay q : Int} (h : 0 < q + intr c m q - pay) : stepA c m pay q = q + intr c m q - pay := if_neg (by omega)
theorem restA_cases {c m pay q : Int} {g : Nat} {o : Option Int} (h : o = restA c m pay (g + 1) q) :
  (q + intr c m q - pay ≤ 0 → o = restA c m pay g 0) ∧ (0 < q + intr c m q - pay → q + intr c m q - pay ≤ 1000000000000 → o = restA c m pay g (q + intr c m q - pay)) ∧ (1000000000000 < q + intr c m q - pay → o = none) := by
 refine ⟨fun h1 => ?_, fun h1 h2 => ?_, fun h1 => ?_⟩
 ·rw [h, restA_on (by rw [stepA_neg h1]; omega), stepA_neg h1]
 ·rw [h, restA_on (by rw [stepA_pos h1]; exact h2), stepA_pos h1]
 ·rw [h, restA_over (by rw [stepA_pos (by omega)]; exact h1)]

set_option maxHeartbeats 4000000 in
theorem trest_any (p ppm ev m pay : Int) (cnt : Nat) (w : World) (hS : Stp w) (h : Ok p ppm ev m) (hk : cnt ≤ 120) (hp0 : 0 ≤ pay) (hp1 : pay ≤ 1000000000000) :
  Calls Tryz.prog 107 #[.agg #[.int .i64 ppm, .int .i64 ev, .int .i64 m], .int .i64 p, .int .i64 cnt, .int .i64 pay] w fun e w' => e = .returned (.tuple #[.int .i64 (rvA (restA (ppm * ev) m pay cnt p)), .bool (restA (ppm * ev) m pay cnt p).isSome]) ∧ Below w.heap.size w w' := by
 have H := Lib.hid h
 have b0 := Below.refl w.heap.size w
 obtain ⟨⟨p0, p1⟩, h2, h3, h4⟩ := h
 clear h2 h3 h4
 go_enter Tryz.func107, Tryz.ntmps107
 go_wp2_with fail
 go_loopg [1, 11] cnt (TLoop w p ppm ev m pay cnt)
 case atStart => exact ⟨0, p, by simp, rfl, rfl, p0, p1, rfl, Bk.Blk.nw10, Bk.be⟩
 case round =>
  obtain ⟨k, q, hkg, rfl, rfl, q0, q1, hr, hb, hbe⟩ := hrel
  have HR := Lib.hid hr
  have HK := Lib.hid hkg
  clear hr hkg
  by_cases hlt : k < cnt
  ·obtain ⟨g, hg⟩ : ∃ g, gk = g + 1 := ⟨gk - 1, by have := HK.out; omega⟩
   have hok : Ok q ppm ev m := ⟨⟨q0, q1⟩, H.out.2⟩
   have hib := intr_bd (m := m) hok.rate q0 q1
   have HI := Lib.hid (fun (W : World) (hS : Stp W) => int_any2 q ppm ev m W hS hok)
   have hca := restA_cases (hg ▸ HR.out)
   have HG := Lib.hid hg
   clear hg hok
   generalize intr (ppm * ev) m q = i at *
   obtain ⟨i0, i1⟩ := hib
   have c0 := hb.c0
   have c1 := hb.c1
   have c2 := hb.c2
   have bw := hbe
   have HC := Lib.hid hca
   clear hca HR
   by_cases hx : q + i - pay ≤ 0
   ·have hx2 : q + i ≤ pay := by omega
    go_wp2_with fail
    refine (HI.out _ (hS.of Bk.be)).mono ?_
    rintro e w1 ⟨rfl, hb1⟩
    have b1 : Below w.heap.size w w1 := bl2 hb1 Bk.be
    have z1 := b1.size
    repeat (rename Bk.Blk wr _ _ _ => hq; (first | (have hq' := Bk.Blk.carry hq hb1 (by (repeat (first | with_reducible refine Bk.Blk.drew ?_ | with_reducible refine Bk.Blk.set_same ?_ | with_reducible refine Bk.Blk.set_ne ?_ (by omega) | with_reducible refine Bk.Blk.alloc ?_)); (with_reducible exact hq))) | (have hq' := Bk.Blk.later hb1 (Bk.Blk.set2 hq)) | skip); clear hq)
    try (have hn := Bk.nx ((wr).heap.size) hb1)
    try (have hn := Bk.nx ((wr).heap.size + 1) hb1)
    try (have hn := Bk.nx ((wr).heap.size + 2) hb1)
    try (have hn := Bk.nx ((wr).heap.size + 3) hb1)
    clear hb1
    repeat (rename World.cell? wr _ = _ => hq; clear hq)
    repeat (rename World.frozen? wr _ = _ => hq; clear hq)
    repeat (rename Bk.Blk w1 _ _ _ => hq; (first | (have _k0 := (hq).c0; have _m0 := (hq).f0) | skip); (first | (have _k1 := (hq).c1; have _m1 := (hq).f1) | skip); (first | (have _k2 := (hq).c2; have _m2 := (hq).f2) | skip); (first | (have _k3 := (hq).c3; have _m3 := (hq).f3) | skip); have _z := (hq).lt; have hk := Bk.Kept.mk hq; clear hq)
    repeat (rename Bk.Kept (Bk.Blk w1 _ _ _) => hq; have hq' := hq.out; clear hq)
    go_wp2_with fail
    go_roundg g
    case measure => have := HG.out; omega
    case rel => exact ⟨k + 1, 0, by have := HG.out; have := HK.out; omega, int_eq (by omega), by go_num, by omega, by omega, HC.out.1 hx, by assumption, Bk.be⟩
   ·have hx1 : 0 < q + i - pay := by omega
    have hx2 : pay < q + i := by omega
    by_cases hy : q + i - pay ≤ 1000000000000
    ·go_wp2_with fail
     refine (HI.out _ (hS.of Bk.be)).mono ?_
     rintro e w1 ⟨rfl, hb1⟩
     have b1 : Below w.heap.size w w1 := bl2 hb1 Bk.be
     have z1 := b1.size
     repeat (rename Bk.Blk wr _ _ _ => hq; (first | (have hq' := Bk.Blk.carry hq hb1 (by (repeat (first | with_reducible refine Bk.Blk.drew ?_ | with_reducible refine Bk.Blk.set_same ?_ | with_reducible refine Bk.Blk.set_ne ?_ (by omega) | with_reducible refine Bk.Blk.alloc ?_)); (with_reducible exact hq))) | (have hq' := Bk.Blk.later hb1 (Bk.Blk.set2 hq)) | skip); clear hq)
     try (have hn := Bk.nx ((wr).heap.size) hb1)
     try (have hn := Bk.nx ((wr).heap.size + 1) hb1)
     try (have hn := Bk.nx ((wr).heap.size + 2) hb1)
     try (have hn := Bk.nx ((wr).heap.size + 3) hb1)
     clear hb1
     repeat (rename World.cell? wr _ = _ => hq; clear hq)
     repeat (rename World.frozen? wr _ = _ => hq; clear hq)
     repeat (rename Bk.Blk w1 _ _ _ => hq; (first | (have _k0 := (hq).c0; have _m0 := (hq).f0) | skip); (first | (have _k1 := (hq).c1; have _m1 := (hq).f1) | skip); (first | (have _k2 := (hq).c2; have _m2 := (hq).f2) | skip); (first | (have _k3 := (hq).c3; have _m3 := (hq).f3) | skip); have _z := (hq).lt; have hk := Bk.Kept.mk hq; clear hq)
     repeat (rename Bk.Kept (Bk.Blk w1 _ _ _) => hq; have hq' := hq.out; clear hq)
     go_wp2_with fail
     go_roundg g
     case measure => have := HG.out; omega
     case rel => exact ⟨k + 1, q + i - pay, by have := HG.out; have := HK.out; omega, int_eq (by omega), by go_num, by omega, by omega, HC.out.2.1 hx1 hy, by assumption, Bk.be⟩
    ·have hy2 : 1000000000000 < q + i - pay := by omega
     have HN := Lib.hid (HC.out.2.2 hy2)
     clear hx hy
     go_wp2_with fail
     refine (HI.out _ (hS.of Bk.be)).mono ?_
     rintro e w1 ⟨rfl, hb1⟩
     have b1 : Below w.heap.size w w1 := bl2 hb1 Bk.be
     have z1 := b1.size
     repeat (rename Bk.Blk wr _ _ _ => hq; (first | (have hq' := Bk.Blk.carry hq hb1 (by (repeat (first | with_reducible refine Bk.Blk.drew ?_ | with_reducible refine Bk.Blk.set_same ?_ | with_reducible refine Bk.Blk.set_ne ?_ (by omega) | with_reducible refine Bk.Blk.alloc ?_)); (with_reducible exact hq))) | (have hq' := Bk.Blk.later hb1 (Bk.Blk.set2 hq)) | skip); clear hq)
     try (have hn := Bk.nx ((wr).heap.size) hb1)
     try (have hn := Bk.nx ((wr).heap.size + 1) hb1)
     try (have hn := Bk.nx ((wr).heap.size + 2) hb1)
     try (have hn := Bk.nx ((wr).heap.size + 3) hb1)
     clear hb1
     repeat (rename World.cell? wr _ = _ => hq; clear hq)
     repeat (rename World.frozen? wr _ = _ => hq; clear hq)
     repeat (rename Bk.Blk w1 _ _ _ => hq; (first | (have _k0 := (hq).c0; have _m0 := (hq).f0) | skip); (first | (have _k1 := (hq).c1; have _m1 := (hq).f1) | skip); (first | (have _k2 := (hq).c2; have _m2 := (hq).f2) | skip); (first | (have _k3 := (hq).c3; have _m3 := (hq).f3) | skip); have _z := (hq).lt; have hk := Bk.Kept.mk hq; clear hq)
     repeat (rename Bk.Kept (Bk.Blk w1 _ _ _) => hq; have hq' := hq.out; clear hq)
     go_wp2_with fail
     go_ret2
     rw [HN.out]
     exact ⟨rfl, Bk.be⟩
  ·have hg0 : gk = 0 := by have := HK.out; omega
   have HE := Lib.hid (show restA (ppm * ev) m pay cnt p = some q by rw [HR.out, hg0]; rfl)
   clear hg0 HR
   go_wp2_with fail
   go_ret2
   rw [HE.out]
   exact ⟨rfl, Bk.be⟩

def rOk (p ppm ev m cnt pay : Int) : Prop := Ok p ppm ev m ∧ (0 ≤ cnt ∧ cnt ≤ 120) ∧ (0 ≤ pay ∧ pay ≤ 1000000000000)
instance (p ppm ev m cnt pay : Int) : Decidable (rOk p ppm ev m cnt pay) := by unfold rOk; exact inferInstance
def rsV (p ppm ev m cnt pay : Int) : Int := if rOk p ppm ev m cnt pay then rvA (restA (ppm * ev) m pay cnt.toNat p) else 0
def rsE (p ppm ev m cnt pay : Int) : Int := if rOk p ppm ev m cnt pay then (if (restA (ppm * ev) m pay cnt.toNat p).isSome then 0 else 6) else 1
def ROut (p ppm ev m cnt pay : Int) (e : Ending) : Prop := e = .returned (.tuple #[.int .i64 (rsV p ppm ev m cnt pay), .int .i64 (rsE p ppm ev m cnt pay)])
theorem rout_no {p ppm ev m cnt pay : Int} (h : ¬ rOk p ppm ev m cnt pay) : ROut p ppm ev m cnt pay (.returned (.tuple #[.int .i64 0, .int .i64 1])) := by
 unfold ROut rsV rsE; rw [if_neg h, if_neg h]
theorem rout_some {p ppm ev m cnt pay n : Int} (h : rOk p ppm ev m cnt pay) (e : restA (ppm * ev) m pay cnt.toNat p = some n) : ROut p ppm ev m cnt pay (.returned (.tuple #[.int .i64 n, .int .i64 0])) := by
 unfold ROut rsV rsE; rw [if_pos h, if_pos h, e]; rfl
theorem rout_none {p ppm ev m cnt pay : Int} (h : rOk p ppm ev m cnt pay) (e : restA (ppm * ev) m pay cnt.toNat p = none) : ROut p ppm ev m cnt pay (.returned (.tuple #[.int .i64 0, .int .i64 6])) := by
 unfold ROut rsV rsE; rw [if_pos h, if_pos h, e]; rfl

end Go.Proofs.YtaanicginfjgdaaGreatDoor.An

namespace Go.Proofs.YtaanicginfjgdaaGreatDoor.An
open Go.RowKit
open Go.Proofs.YtaanicginfjgdaaGreatDoor
open Go.Proofs.YtaanicginfjgdaaGreatDoor.Wm Go.Proofs.YtaanicginfjgdaaGreatDoor.Wt Go.Proofs.YtaanicginfjgdaaGreatDoor.Rd

def RRLoop (w : World) (p ppm ev m pay : Int) (cnt : Nat) (g : Nat) (v0 v14 : Value) (wr : World) : Prop := RLoop p ppm ev m pay cnt g v0 v14 ∧ w = wr

set_option maxHeartbeats 4000000 in
theorem rrest_ok (p ppm ev m pay : Int) (cnt : Nat) (w : World) (h : Ok p ppm ev m) (hk : cnt ≤ 120) (hp0 : 0 ≤ pay) (hp1 : pay ≤ 1000000000000) :
  Calls Tryz.prog 113 #[.int .i64 p, .int .i64 ppm, .int .i64 ev, .int .i64 m, .int .i64 cnt, .int .i64 pay] w fun e w' => ROut p ppm ev m cnt pay e ∧ w = w' := by
 have H := Lib.hid h
 have HG := Lib.hid (fun W => rgd_yes p ppm ev m W h)
 have HY := Lib.hid (show rOk p ppm ev m cnt pay from ⟨h, ⟨by omega, by omega⟩, ⟨hp0, hp1⟩⟩)
 have hcn : ((cnt : Nat) : Int).toNat = cnt := by omega
 have HCN := Lib.hid hcn
 obtain ⟨⟨p0, p1⟩, h2, h3, h4⟩ := h
 clear h2 h3 h4 hcn
 go_enter Tryz.func113, Tryz.ntmps113
 go_wp2_with fail
 refine (HG.out _).mono ?_
 rintro e w' ⟨rfl, rfl⟩
 go_wp2_with fail
 go_loopg [0, 14] cnt (RRLoop w p ppm ev m pay cnt)
 case atStart => exact ⟨⟨0, p, by simp, rfl, rfl, p0, p1, rfl⟩, rfl⟩
 case round =>
  obtain ⟨⟨k, q, hkg, rfl, rfl, q0, q1, hr⟩, rfl⟩ := hrel
  have HR := Lib.hid hr
  have HK := Lib.hid hkg
  clear hr hkg
  by_cases hlt : k < cnt
  ·obtain ⟨g, hg⟩ : ∃ g, gk = g + 1 := ⟨gk - 1, by have := HK.out; omega⟩
   have hok : Ok q ppm ev m := ⟨⟨q0, q1⟩, H.out.2⟩
   have hib := intr_bd (m := m) hok.rate q0 q1
   have HI := Lib.hid (fun (W : World) => rint_any2 q ppm ev m W hok)
   have hca := restA_cases (hg ▸ HR.out)
   have HG := Lib.hid hg
   clear hg hok
   generalize intr (ppm * ev) m q = i at *
   obtain ⟨i0, i1⟩ := hib
   have HC := Lib.hid hca
   clear hca HR
   by_cases hx : q + i - pay < 0
   ·have hx2 : q + i < pay := by omega
    have hx3 : q + i - pay ≤ 1000000000000 := by omega
    have hx4 := Lib.hid (show q + i - pay ≤ 0 by omega)
    go_wp2_with fail
    refine (HI.out _).mono ?_
    rintro e w' ⟨rfl, rfl⟩
    go_wp2_with fail
    go_roundg g
    case measure => have := HG.out; omega
    case rel => exact ⟨⟨k + 1, 0, by have := HG.out; have := HK.out; omega, rfl, by go_num, by omega, by omega, HC.out.1 hx4.out⟩, rfl⟩
   ·have hx1 : 0 ≤ q + i - pay := by omega
    have hx2 : pay ≤ q + i := by omega
    have HZ := Lib.hid (show restA (ppm * ev) m pay cnt p = (if 1000000000000 < q + i - pay then none else restA (ppm * ev) m pay g (q + i - pay)) by
     by_cases hy : q + i - pay ≤ 1000000000000
     ·rw [if_neg (by omega)]
      by_cases hz : 0 < q + i - pay
      ·exact HC.out.2.1 hz hy
      ·rw [HC.out.1 (by omega), show q + i - pay = 0 by omega]
     ·rw [if_pos (by omega)]; exact HC.out.2.2 (by omega))
    clear hx
    by_cases hy : q + i - pay ≤ 1000000000000
    ·go_wp2_with fail
     refine (HI.out _).mono ?_
     rintro e w' ⟨rfl, rfl⟩
     go_wp2_with fail
     go_roundg g
     case measure => have := HG.out; omega
     case rel => exact ⟨⟨k + 1, q + i - pay, by have := HG.out; have := HK.out; omega, rfl, by go_num, by omega, by omega, by rw [HZ.out, if_neg (by omega)]⟩, rfl⟩
    ·have hy2 : 1000000000000 < q + i - pay := by omega
     have HN := Lib.hid (show restA (ppm * ev) m pay cnt p = none by rw [HZ.out, if_pos hy2])
     clear hy
     go_wp2_with fail
     refine (HI.out _).mono ?_
     rintro e w' ⟨rfl, rfl⟩
     go_wp2_with fail
     go_ret2
     exact ⟨rout_none HY.out (by rw [HCN.out]; exact HN.out), rfl⟩
  ·have hg0 : gk = 0 := by have := HK.out; omega
   have HE := Lib.hid (show restA (ppm * ev) m pay cnt p = some q by rw [HR.out, hg0]; rfl)
   clear hg0 HR
   go_wp2_with fail
   go_ret2
   exact ⟨rout_some HY.out (by rw [HCN.out]; exact HE.out), rfl⟩

set_option maxHeartbeats 4000000 in
theorem rrest_any (p ppm ev m cnt pay : Int) (w : World) : Calls Tryz.prog 113 #[.int .i64 p, .int .i64 ppm, .int .i64 ev, .int .i64 m, .int .i64 cnt, .int .i64 pay] w fun e w' => ROut p ppm ev m cnt pay e ∧ w = w' := by
 by_cases hy : rOk p ppm ev m cnt pay
 ·obtain ⟨h, ⟨g1, g2⟩, ⟨g3, g4⟩⟩ := hy
  have := rrest_ok p ppm ev m pay cnt.toNat w h (by omega) g3 g4
  rw [show ((cnt.toNat : Nat) : Int) = cnt by omega] at this
  exact this
 ·have HN := Lib.hid hy
  unfold rOk at hy
  by_cases ho : Ok p ppm ev m
  ·have HA := Lib.hid (fun W => rgd_yes p ppm ev m W ho)
   by_cases h1 : cnt < 0
   ·clear hy ho
    go_enter Tryz.func113, Tryz.ntmps113
    go_wp2_with fail
    refine (HA.out _).mono ?_
    rintro e w' ⟨rfl, rfl⟩
    go_wp2_with fail
    go_ret2
    exact ⟨rout_no HN.out, rfl⟩
   ·have g1 : 0 ≤ cnt := by omega
    clear h1
    by_cases h2 : 120 < cnt
    ·clear hy ho
     go_enter Tryz.func113, Tryz.ntmps113
     go_wp2_with fail
     refine (HA.out _).mono ?_
     rintro e w' ⟨rfl, rfl⟩
     go_wp2_with fail
     go_ret2
     exact ⟨rout_no HN.out, rfl⟩
    ·have g2 : cnt ≤ 120 := by omega
     clear h2
     by_cases h3 : pay < 0
     ·clear hy ho
      go_enter Tryz.func113, Tryz.ntmps113
      go_wp2_with fail
      refine (HA.out _).mono ?_
      rintro e w' ⟨rfl, rfl⟩
      go_wp2_with fail
      go_ret2
      exact ⟨rout_no HN.out, rfl⟩
     ·have g3 : 0 ≤ pay := by omega
      have g4 : 1000000000000 < pay := by
       rcases Classical.em (1000000000000 < pay) with h | h
       ·exact h
       ·exact absurd ⟨ho, ⟨g1, g2⟩, ⟨g3, by omega⟩⟩ hy
      clear h3 hy ho
      go_enter Tryz.func113, Tryz.ntmps113
      go_wp2_with fail
      refine (HA.out _).mono ?_
      rintro e w' ⟨rfl, rfl⟩
      go_wp2_with fail
      go_ret2
      exact ⟨rout_no HN.out, rfl⟩
  ·have HA := Lib.hid (fun W => rgd_no p ppm ev m W ho)
   clear hy ho
   go_enter Tryz.func113, Tryz.ntmps113
   go_wp2_with fail
   refine (HA.out _).mono ?_
   rintro e w' ⟨rfl, rfl⟩
   go_wp2_with fail
   go_ret2
   exact ⟨rout_no HN.out, rfl⟩
end Go.Proofs.YtaanicginfjgdaaGreatDoor.An
