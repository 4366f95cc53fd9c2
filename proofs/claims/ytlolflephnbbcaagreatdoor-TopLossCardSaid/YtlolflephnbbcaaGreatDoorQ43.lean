/-
  Parts of the proof: Ana, An4, An5.
-/
import Derived.Test.YtlolflephnbbcaaGreatDoorQ07
import Derived.Deep.LoopGhost
namespace Go.Proofs.YtlolflephnbbcaaGreatDoor.An
open Go.RowKit
open Go.Proofs.YtlolflephnbbcaaGreatDoor
open Go.Proofs.YtlolflephnbbcaaGreatDoor.Wm Go.Proofs.YtlolflephnbbcaaGreatDoor.Wt Go.Proofs.YtlolflephnbbcaaGreatDoor.Rd

theorem acc_yes (p ppm ev m : Int) (w : World) (h : Ok p ppm ev m) : Calls Tryz.prog 76 #[.agg #[.int .i64 ppm, .int .i64 ev, .int .i64 m], .int .i64 p] w fun e w' => e = .returned (.bool true) ∧ Below w.heap.size w w' := by
 obtain ⟨⟨h1, h2⟩, ⟨h3, h4⟩, ⟨h5, h6⟩, ⟨h7, h8⟩⟩ := h
 have b0 := Below.refl w.heap.size w
 go_enter Tryz.func76, Tryz.ntmps76
 go_wp2_with fail
 refine (valid_yes _ _ h7 h8).mono ?_
 rintro e w' ⟨rfl, rfl⟩
 go_wp2_with fail
 go_ret
 exact ⟨rfl, Bk.be⟩
theorem acc_no (p ppm ev m : Int) (w : World) (h : ¬ Ok p ppm ev m) : Calls Tryz.prog 76 #[.agg #[.int .i64 ppm, .int .i64 ev, .int .i64 m], .int .i64 p] w fun e w' => e = .returned (.bool false) ∧ Below w.heap.size w w' := by
 unfold Ok at h
 have b0 := Below.refl w.heap.size w
 by_cases t0 : p < 0
 ·clear h
  go_enter Tryz.func76, Tryz.ntmps76
  go_wp2_with fail
  go_ret
  exact ⟨rfl, Bk.be⟩
 have s0 : 0 ≤ p := by omega
 clear t0
 by_cases t1 : 1000000000000 < p
 ·clear h
  go_enter Tryz.func76, Tryz.ntmps76
  go_wp2_with fail
  go_ret
  exact ⟨rfl, Bk.be⟩
 have s1 : p ≤ 1000000000000 := by omega
 clear t1
 by_cases t2 : ppm < 0
 ·clear h
  go_enter Tryz.func76, Tryz.ntmps76
  go_wp2_with fail
  go_ret
  exact ⟨rfl, Bk.be⟩
 have s2 : 0 ≤ ppm := by omega
 clear t2
 by_cases t3 : 1000000 < ppm
 ·clear h
  go_enter Tryz.func76, Tryz.ntmps76
  go_wp2_with fail
  go_ret
  exact ⟨rfl, Bk.be⟩
 have s3 : ppm ≤ 1000000 := by omega
 clear t3
 by_cases t4 : ev < 1
 ·clear h
  go_enter Tryz.func76, Tryz.ntmps76
  go_wp2_with fail
  go_ret
  exact ⟨rfl, Bk.be⟩
 have s4 : 1 ≤ ev := by omega
 clear t4
 by_cases t5 : 12 < ev
 ·clear h
  go_enter Tryz.func76, Tryz.ntmps76
  go_wp2_with fail
  go_ret
  exact ⟨rfl, Bk.be⟩
 have s5 : ev ≤ 12 := by omega
 clear t5
 have hm : m < 1 ∨ 6 < m := by omega
 clear h
 go_enter Tryz.func76, Tryz.ntmps76
 go_wp2_with fail
 refine (valid_no _ _ hm).mono ?_
 rintro e w' ⟨rfl, rfl⟩
 go_wp2_with fail
 go_ret
 exact ⟨rfl, Bk.be⟩
theorem int_fit {c m p : Int} (hc : Rate c) (h0 : 0 ≤ p) (h1 : p ≤ 1000000000000) (hm : 1 ≤ m ∧ m ≤ 6) : rdV (p * c) 12000000 m = intr c m p ∧ rdE (p * c) 12000000 m = 0 := by
 have hb := intr_bd (m := m) hc h0 h1
 have hk : rok 12000000 m := ⟨by omega, hm⟩
 have hi : I64 (rd (p * c) 12000000 m) := by unfold intr at hb; unfold I64; omega
 rw [(rd_yes hk).1, (rd_yes hk).2, show iin (rd (p * c) 12000000 m) = true from decide_eq_true hi]
 exact ⟨if_pos hi, rfl⟩
set_option maxHeartbeats 2000000 in
theorem int_c (p ppm ev m c : Int) (w : World) (hS : Stp w) (hc : Rate c) (hcw : IntKind.i64.wrap (ppm * ev) = c) (p0 : 0 ≤ p) (p1 : p ≤ 1000000000000) (m16 : 1 ≤ m ∧ m ≤ 6) : Calls Tryz.prog 79 #[.agg #[.int .i64 ppm, .int .i64 ev, .int .i64 m], .int .i64 p] w fun e w' => e = .returned (.int .i64 (intr c m p)) ∧ Below w.heap.size w w' := by
 have hf := int_fit hc p0 p1 m16
 have hc64 : I64 c := by obtain ⟨a, b⟩ := hc; unfold I64; omega
 have hp := prod_bd hc p0 p1
 have HM := Lib.hid (fun W => mul_any p c W (by unfold I64; omega) hc64)
 have hd := fun (W : World) (hS : Stp W) => rd_any (p * c) 12000000 m W hS (by unfold I128; omega) (by unfold I64; omega)
 unfold DPost at hd
 rw [hf.1, hf.2] at hd
 have HD := Lib.hid hd
 clear hd hf hc hc64 hp
 generalize intr c m p = v at *
 generalize p * c = z at *
 have b0 := Below.refl w.heap.size w
 go_enter Tryz.func79, Tryz.ntmps79
 go_wp2_with fail
 have hn := Bk.Blk.nw10 (W := w) (cs := #[.int .i64 ppm, .int .i64 ev, .int .i64 m]) (t := 147)
 have hb1 : Below (w).heap.size w ((w).alloc (.cells #[.int .i64 ppm, .int .i64 ev, .int .i64 m] 147)) := (Below.refl _ _).alloc (Nat.le_refl _) _
 generalize (w).alloc (.cells _ 147) = w1 at *
 have b1 : Below w.heap.size w w1 := bl2 hb1 Bk.be
 have z1 := b1.size
 repeat (rename Bk.Blk w _ _ _ => hq; (first | (have hq' := Bk.Blk.carry hq hb1 (by (repeat (first | with_reducible refine Bk.Blk.drew ?_ | with_reducible refine Bk.Blk.set_same ?_ | with_reducible refine Bk.Blk.set_ne ?_ (by omega) | with_reducible refine Bk.Blk.alloc ?_)); (with_reducible exact hq))) | (have hq' := Bk.Blk.later hb1 (Bk.Blk.set2 hq)) | skip); clear hq)
 try (have hn := Bk.nx ((w).heap.size) hb1)
 try (have hn := Bk.nx ((w).heap.size + 1) hb1)
 try (have hn := Bk.nx ((w).heap.size + 2) hb1)
 try (have hn := Bk.nx ((w).heap.size + 3) hb1)
 clear hb1
 repeat (rename World.cell? w _ = _ => hq; clear hq)
 repeat (rename World.frozen? w _ = _ => hq; clear hq)
 repeat (rename Bk.Blk w1 _ _ _ => hq; (first | (have _k0 := (hq).c0; have _m0 := (hq).f0) | skip); (first | (have _k1 := (hq).c1; have _m1 := (hq).f1) | skip); (first | (have _k2 := (hq).c2; have _m2 := (hq).f2) | skip); (first | (have _k3 := (hq).c3; have _m3 := (hq).f3) | skip); have _z := (hq).lt; have hk := Bk.Kept.mk hq; clear hq)
 repeat (rename Bk.Kept (Bk.Blk w1 _ _ _) => hq; have hq' := hq.out; clear hq)
 repeat (rename Bk.Blk w1 _ _ _ => hq; (first | (have _q0 := (hq).q0) | skip); (first | (have _q1 := (hq).q1) | skip); (first | (have _q2 := (hq).q2) | skip); (first | (have _q3 := (hq).q3) | skip); have hk := Bk.Kept.mk hq; clear hq)
 repeat (rename Bk.Kept (Bk.Blk w1 _ _ _) => hq; have hq' := hq.out; clear hq)
 refine Reg.region_quiet (by kernel_rfl) (by kernel_rfl) ?_
 iterate 15 (first | go_big_quiet_skip | (go_big_quiet_want; (first | (go_big_quiet_op; go_big_quiet_on) | (apply Reg.quiet_run; (intro W hW; skip; go_simp; (first | done | rfl | exact ⟨rfl, rfl⟩ )); (simp only [Act.put, List.setIfInBounds_toArray, List.set_cons_zero, List.set_cons_succ]; go_big_quiet_on)) | (apply Reg.quiet_call; (intro W hW; go_simp; (first | done | rfl | exact ⟨rfl, rfl⟩)); (intro W hW; (first  | (go_at_call 83; exact Reg.cls_call hW (HM.out _)) | (go_at_call 82; exact Reg.cls_call hW (HD.out _ (hS.of (bl2 hW b1)))))); (simp only [Act.put, List.setIfInBounds_toArray, List.set_cons_zero, List.set_cons_succ]; go_big_quiet_on)))))
 refine wpQuiet_nil ?_
 intro w2 hW
 have b2 := bl2 hW b1
 clear hW
 go_wp2_with fail
 go_ret
 exact ⟨rfl, Bk.be⟩
theorem int_any2 (p ppm ev m : Int) (w : World) (hS : Stp w) (h : Ok p ppm ev m) : Calls Tryz.prog 79 #[.agg #[.int .i64 ppm, .int .i64 ev, .int .i64 m], .int .i64 p] w fun e w' => e = .returned (.int .i64 (intr (ppm * ev) m p)) ∧ Below w.heap.size w w' := by
 have hc := h.rate
 exact int_c p ppm ev m (ppm * ev) w hS hc (by rw [IntKind.wrap_i64]; obtain ⟨a, b⟩ := hc; omega) h.1.1 h.1.2 h.2.2.2

section
variable {p ppm ev x q r : Int} {w : World}
end
end Go.Proofs.YtlolflephnbbcaaGreatDoor.An

namespace Go.Proofs.YtlolflephnbbcaaGreatDoor.An
open Go.RowKit
open Go.Proofs.YtlolflephnbbcaaGreatDoor
open Go.Proofs.YtlolflephnbbcaaGreatDoor.Wm Go.Proofs.YtlolflephnbbcaaGreatDoor.Wt Go.Proofs.YtlolflephnbbcaaGreatDoor.Rd

def rvA (o : Option Int) : Int := match o with | some n => n | none => 0
theorem int_eq {a b : Int} (h : a = b) : Value.int .i64 a = .int .i64 b := by rw [h]
def TLoop (w : World) (p ppm ev m pay : Int) (cnt : Nat) (g : Nat) (v1 v11 : Value) (wr : World) : Prop := ∃ (k : Nat) (q : Int), k + g = cnt ∧ v1 = .int .i64 q ∧ v11 = .int .i64 k ∧ 0 ≤ q ∧ q ≤ 1000000000000 ∧ restA (ppm * ev) m pay cnt p = restA (ppm * ev) m pay g q ∧
 Bk.Blk wr w.heap.size #[.int .i64 ppm, .int .i64 ev, .int .i64 m] 147 ∧ Below w.heap.size w wr
def RLoop (p ppm ev m pay : Int) (cnt : Nat) (g : Nat) (v0 v14 : Value) : Prop := ∃ (k : Nat) (q : Int), k + g = cnt ∧ v0 = .int .i64 q ∧ v14 = .int .i64 k ∧ 0 ≤ q ∧ q ≤ 1000000000000 ∧ restA (ppm * ev) m pay cnt p = restA (ppm * ev) m pay g q
theorem restA_over {c m pay q : Int} {g : Nat} (h : 1000000000000 < stepA c m pay q) : restA c m pay (g + 1) q = none := by unfold restA; rw [if_pos h]
theorem restA_on {c m pay q : Int} {g : Nat} (h : stepA c m pay q ≤ 1000000000000) : restA c m pay (g + 1) q = restA c m pay g (stepA c m pay q) := by
 conv => lhs; unfold restA
 rw [if_neg (by omega)]
theorem stepA_neg {c m pay q : Int} (h : q + intr c m q - pay ≤ 0) : stepA c m pay q = 0 := by unfold stepA; split <;> omega
theorem stepA_pos {c m pay q : Int} (h : 0 < q + intr c m q - pay) : stepA c m pay q = q + intr c m q - pay := if_neg (by omega)
theorem restA_cases {c m pay q : Int} {g : Nat} {o : Option Int} (h : o = restA c m pay (g + 1) q) :
  (q + intr c m q - pay ≤ 0 → o = restA c m pay g 0) ∧ (0 < q + intr c m q - pay → q + intr c m q - pay ≤ 1000000000000 → o = restA c m pay g (q + intr c m q - pay)) ∧ (1000000000000 < q + intr c m q - pay → o = none) := by
 refine ⟨fun h1 => ?_, fun h1 h2 => ?_, fun h1 => ?_⟩
 ·rw [h, restA_on (by rw [stepA_neg h1]; omega), stepA_neg h1]
 ·rw [h, restA_on (by rw [stepA_pos h1]; exact h2), stepA_pos h1]
 ·rw [h, restA_over (by rw [stepA_pos (by omega)]; exact h1)]

set_option maxHeartbeats 4000000 in
theorem trest_any (p ppm ev m pay : Int) (cnt : Nat) (w : World) (hS : Stp w) (h : Ok p ppm ev m) (hk : cnt ≤ 120) (hp0 : 0 ≤ pay) (hp1 : pay ≤ 1000000000000) :
  Calls Tryz.prog 78 #[.agg #[.int .i64 ppm, .int .i64 ev, .int .i64 m], .int .i64 p, .int .i64 cnt, .int .i64 pay] w fun e w' => e = .returned (.tuple #[.int .i64 (rvA (restA (ppm * ev) m pay cnt p)), .bool (restA (ppm * ev) m pay cnt p).isSome]) ∧ Below w.heap.size w w' := by
 have H := Lib.hid h
 have b0 := Below.refl w.heap.size w
 obtain ⟨⟨p0, p1⟩, h2, h3, h4⟩ := h
 clear h2 h3 h4
 go_enter Tryz.func78, Tryz.ntmps78
 go_wp2_with fail
 go_loopg [1, 11] cnt (TLoop w p ppm ev m pay cnt)
 case atStart => exact ⟨0, p, by simp, rfl, rfl, p0, p1, rfl, Bk.Blk.nw10, Bk.be⟩
 case round =>
  obtain ⟨k, q, hkg, rfl, rfl, q0, q1, hr, hb, hbe⟩ := hrel
  have HR := Lib.hid hr
  have HK := Lib.hid hkg
  clear hr hkg
  by_cases hlt : k < cnt
  ·obtain ⟨g, hg⟩ : ∃ g, gk = g + 1 := ⟨gk - 1, by have := HK.out; omega⟩
   have hok : Ok q ppm ev m := ⟨⟨q0, q1⟩, H.out.2⟩
   have hib := intr_bd (m := m) hok.rate q0 q1
   have HI := Lib.hid (fun (W : World) (hS : Stp W) => int_any2 q ppm ev m W hS hok)
   have hca := restA_cases (hg ▸ HR.out)
   have HG := Lib.hid hg
   clear hg hok
   generalize intr (ppm * ev) m q = i at *
   obtain ⟨i0, i1⟩ := hib
   have c0 := hb.c0
   have c1 := hb.c1
   have c2 := hb.c2
   have bw := hbe
   have HC := Lib.hid hca
   clear hca HR
   by_cases hx : q + i - pay ≤ 0
   ·have hx2 : q + i ≤ pay := by omega
    go_wp2_with fail
    refine (HI.out _ (hS.of Bk.be)).mono ?_
    rintro e w1 ⟨rfl, hb1⟩
    have b1 : Below w.heap.size w w1 := bl2 hb1 Bk.be
    have z1 := b1.size
    repeat (rename Bk.Blk wr _ _ _ => hq; (first | (have hq' := Bk.Blk.carry hq hb1 (by (repeat (first | with_reducible refine Bk.Blk.drew ?_ | with_reducible refine Bk.Blk.set_same ?_ | with_reducible refine Bk.Blk.set_ne ?_ (by omega) | with_reducible refine Bk.Blk.alloc ?_)); (with_reducible exact hq))) | (have hq' := Bk.Blk.later hb1 (Bk.Blk.set2 hq)) | skip); clear hq)
    try (have hn := Bk.nx ((wr).heap.size) hb1)
    try (have hn := Bk.nx ((wr).heap.size + 1) hb1)
    try (have hn := Bk.nx ((wr).heap.size + 2) hb1)
    try (have hn := Bk.nx ((wr).heap.size + 3) hb1)
    clear hb1
    repeat (rename World.cell? wr _ = _ => hq; clear hq)
    repeat (rename World.frozen? wr _ = _ => hq; clear hq)
    repeat (rename Bk.Blk w1 _ _ _ => hq; (first | (have _k0 := (hq).c0; have _m0 := (hq).f0) | skip); (first | (have _k1 := (hq).c1; have _m1 := (hq).f1) | skip); (first | (have _k2 := (hq).c2; have _m2 := (hq).f2) | skip); (first | (have _k3 := (hq).c3; have _m3 := (hq).f3) | skip); have _z := (hq).lt; have hk := Bk.Kept.mk hq; clear hq)
    repeat (rename Bk.Kept (Bk.Blk w1 _ _ _) => hq; have hq' := hq.out; clear hq)
    go_wp2_with fail
    go_roundg g
    case measure => have := HG.out; omega
    case rel => exact ⟨k + 1, 0, by have := HG.out; have := HK.out; omega, int_eq (by omega), by go_num, by omega, by omega, HC.out.1 hx, by assumption, Bk.be⟩
   ·have hx1 : 0 < q + i - pay := by omega
    have hx2 : pay < q + i := by omega
    by_cases hy : q + i - pay ≤ 1000000000000
    ·go_wp2_with fail
     refine (HI.out _ (hS.of Bk.be)).mono ?_
     rintro e w1 ⟨rfl, hb1⟩
     have b1 : Below w.heap.size w w1 := bl2 hb1 Bk.be
     have z1 := b1.size
     repeat (rename Bk.Blk wr _ _ _ => hq; (first | (have hq' := Bk.Blk.carry hq hb1 (by (repeat (first | with_reducible refine Bk.Blk.drew ?_ | with_reducible refine Bk.Blk.set_same ?_ | with_reducible refine Bk.Blk.set_ne ?_ (by omega) | with_reducible refine Bk.Blk.alloc ?_)); (with_reducible exact hq))) | (have hq' := Bk.Blk.later hb1 (Bk.Blk.set2 hq)) | skip); clear hq)
     try (have hn := Bk.nx ((wr).heap.size) hb1)
     try (have hn := Bk.nx ((wr).heap.size + 1) hb1)
     try (have hn := Bk.nx ((wr).heap.size + 2) hb1)
     try (have hn := Bk.nx ((wr).heap.size + 3) hb1)
     clear hb1
     repeat (rename World.cell? wr _ = _ => hq; clear hq)
     repeat (rename World.frozen? wr _ = _ => hq; clear hq)
     repeat (rename Bk.Blk w1 _ _ _ => hq; (first | (have _k0 := (hq).c0; have _m0 := (hq).f0) | skip); (first | (have _k1 := (hq).c1; have _m1 := (hq).f1) | skip); (first | (have _k2 := (hq).c2; have _m2 := (hq).f2) | skip); (first | (have _k3 := (hq).c3; have _m3 := (hq).f3) | skip); have _z := (hq).lt; have hk := Bk.Kept.mk hq; clear hq)
     repeat (rename Bk.Kept (Bk.Blk w1 _ _ _) => hq; have hq' := hq.out; clear hq)
     go_wp2_with fail
     go_roundg g
     case measure => have := HG.out; omega
     case rel => exact ⟨k + 1, q + i - pay, by have := HG.out; have := HK.out; omega, int_eq (by omega), by go_num, by omega, by omega, HC.out.2.1 hx1 hy, by assumption, Bk.be⟩
    ·have hy2 : 1000000000000 < q + i - pay := by omega
     have HN := Lib.hid (HC.out.2.2 hy2)
     clear hx hy
     go_wp2_with fail
     refine (HI.out _ (hS.of Bk.be)).mono ?_
     rintro e w1 ⟨rfl, hb1⟩
     have b1 : Below w.heap.size w w1 := bl2 hb1 Bk.be
     have z1 := b1.size
     repeat (rename Bk.Blk wr _ _ _ => hq; (first | (have hq' := Bk.Blk.carry hq hb1 (by (repeat (first | with_reducible refine Bk.Blk.drew ?_ | with_reducible refine Bk.Blk.set_same ?_ | with_reducible refine Bk.Blk.set_ne ?_ (by omega) | with_reducible refine Bk.Blk.alloc ?_)); (with_reducible exact hq))) | (have hq' := Bk.Blk.later hb1 (Bk.Blk.set2 hq)) | skip); clear hq)
     try (have hn := Bk.nx ((wr).heap.size) hb1)
     try (have hn := Bk.nx ((wr).heap.size + 1) hb1)
     try (have hn := Bk.nx ((wr).heap.size + 2) hb1)
     try (have hn := Bk.nx ((wr).heap.size + 3) hb1)
     clear hb1
     repeat (rename World.cell? wr _ = _ => hq; clear hq)
     repeat (rename World.frozen? wr _ = _ => hq; clear hq)
     repeat (rename Bk.Blk w1 _ _ _ => hq; (first | (have _k0 := (hq).c0; have _m0 := (hq).f0) | skip); (first | (have _k1 := (hq).c1; have _m1 := (hq).f1) | skip); (first | (have _k2 := (hq).c2; have _m2 := (hq).f2) | skip); (first | (have _k3 := (hq).c3; have _m3 := (hq).f3) | skip); have _z := (hq).lt; have hk := Bk.Kept.mk hq; clear hq)
     repeat (rename Bk.Kept (Bk.Blk w1 _ _ _) => hq; have hq' := hq.out; clear hq)
     go_wp2_with fail
     go_ret2
     rw [HN.out]
     exact ⟨rfl, Bk.be⟩
  ·have hg0 : gk = 0 := by have := HK.out; omega
   have HE := Lib.hid (show restA (ppm * ev) m pay cnt p = some q by rw [HR.out, hg0]; rfl)
   clear hg0 HR
   go_wp2_with fail
   go_ret2
   rw [HE.out]
   exact ⟨rfl, Bk.be⟩

def rOk (p ppm ev m cnt pay : Int) : Prop := Ok p ppm ev m ∧ (0 ≤ cnt ∧ cnt ≤ 120) ∧ (0 ≤ pay ∧ pay ≤ 1000000000000)
instance (p ppm ev m cnt pay : Int) : Decidable (rOk p ppm ev m cnt pay) := by unfold rOk; exact inferInstance
def rsV (p ppm ev m cnt pay : Int) : Int := if rOk p ppm ev m cnt pay then rvA (restA (ppm * ev) m pay cnt.toNat p) else 0
def rsE (p ppm ev m cnt pay : Int) : Int := if rOk p ppm ev m cnt pay then (if (restA (ppm * ev) m pay cnt.toNat p).isSome then 0 else 6) else 1
def ROut (p ppm ev m cnt pay : Int) (e : Ending) : Prop := e = .returned (.tuple #[.int .i64 (rsV p ppm ev m cnt pay), .int .i64 (rsE p ppm ev m cnt pay)])
end Go.Proofs.YtlolflephnbbcaaGreatDoor.An

namespace Go.Proofs.YtlolflephnbbcaaGreatDoor.An
open Go.RowKit
open Go.Proofs.YtlolflephnbbcaaGreatDoor
open Go.Proofs.YtlolflephnbbcaaGreatDoor.Wm Go.Proofs.YtlolflephnbbcaaGreatDoor.Wt Go.Proofs.YtlolflephnbbcaaGreatDoor.Rd

def RRLoop (w : World) (p ppm ev m pay : Int) (cnt : Nat) (g : Nat) (v0 v14 : Value) (wr : World) : Prop := RLoop p ppm ev m pay cnt g v0 v14 ∧ w = wr

end Go.Proofs.YtlolflephnbbcaaGreatDoor.An
namespace Go.Proofs.YtlolflephnbbcaaGreatDoor.An
open Go.RowKit
open Go.Proofs.YtlolflephnbbcaaGreatDoor
open Go.Proofs.YtlolflephnbbcaaGreatDoor.Wm Go.Proofs.YtlolflephnbbcaaGreatDoor.Wt Go.Proofs.YtlolflephnbbcaaGreatDoor.Rd

def pOk (p ppm ev m cnt bal : Int) : Prop := Ok p ppm ev m ∧ (1 ≤ cnt ∧ cnt ≤ 120) ∧ (0 ≤ bal ∧ bal ≤ p)
instance (p ppm ev m cnt bal : Int) : Decidable (pOk p ppm ev m cnt bal) := by unfold pOk; exact inferInstance
def POut (p ppm ev m cnt bal : Int) (e : Ending) : Prop := ∃ v c : Int, e = .returned (.tuple #[.int .i64 v, .int .i64 c]) ∧
 ((¬ pOk p ppm ev m cnt bal ∧ v = 0 ∧ c = 1) ∨ (pOk p ppm ev m cnt bal ∧ enough (ppm * ev) m cnt.toNat p bal 1000000000000 = true ∧ Least (ppm * ev) m cnt.toNat p bal v ∧ c = 0) ∨
  (pOk p ppm ev m cnt bal ∧ enough (ppm * ev) m cnt.toNat p bal 1000000000000 = false ∧ v = 0 ∧ c = 6))
theorem pout_no {p ppm ev m cnt bal : Int} (h : ¬ pOk p ppm ev m cnt bal) : POut p ppm ev m cnt bal (.returned (.tuple #[.int .i64 0, .int .i64 1])) := ⟨0, 1, rfl, .inl ⟨h, rfl, rfl⟩⟩
theorem pout_over {p ppm ev m cnt bal : Int} (h : pOk p ppm ev m cnt bal) (he : enough (ppm * ev) m cnt.toNat p bal 1000000000000 = false) : POut p ppm ev m cnt bal (.returned (.tuple #[.int .i64 0, .int .i64 6])) := ⟨0, 6, rfl, .inr (.inr ⟨h, he, rfl, rfl⟩)⟩
theorem pout_ok {p ppm ev m cnt bal v : Int} (h : pOk p ppm ev m cnt bal) (hl : Least (ppm * ev) m cnt.toNat p bal v) : POut p ppm ev m cnt bal (.returned (.tuple #[.int .i64 v, .int .i64 0])) :=
 ⟨v, 0, rfl, .inr (.inl ⟨h, enough_mono h.1.rate h.1.1.1 h.1.1.2 hl.1.1 hl.1.2 hl.2.1, hl, rfl⟩)⟩

theorem clos_any (p ppm ev m bal pay : Int) (cnt : Nat) (a b c d : Nat) (w : World) (hS : Stp w) (h : Ok p ppm ev m) (hk : cnt ≤ 120) (hp0 : 0 ≤ pay) (hp1 : pay ≤ 1000000000000)
  (ha : Bk.Blk w a #[.int .i64 ppm, .int .i64 ev, .int .i64 m] 147) (hb : Bk.Blk w b #[.int .i64 p] 3) (hc : Bk.Blk w c #[.int .i64 cnt] 3) (hd : Bk.Blk w d #[.int .i64 bal] 3) :
  Calls Tryz.prog 77 #[.int .i64 pay, .pointer (some ⟨a, 0, none⟩), .pointer (some ⟨b, 0, none⟩), .pointer (some ⟨c, 0, none⟩), .pointer (some ⟨d, 0, none⟩)] w fun e w' => e = .returned (.bool (enough (ppm * ev) m cnt p bal pay)) ∧ Below w.heap.size w w' := by
 have ht := fun (W : World) (hS : Stp W) => trest_any p ppm ev m pay cnt W hS h hk hp0 hp1
 have b0 := Below.refl w.heap.size w
 repeat (rename Bk.Blk w _ _ _ => hq; (first | (have _k0 := (hq).c0; have _m0 := (hq).f0) | skip); (first | (have _k1 := (hq).c1; have _m1 := (hq).f1) | skip); (first | (have _k2 := (hq).c2; have _m2 := (hq).f2) | skip); (first | (have _k3 := (hq).c3; have _m3 := (hq).f3) | skip); have _z := (hq).lt; have hk := Bk.Kept.mk hq; clear hq)
 repeat (rename Bk.Kept (Bk.Blk w _ _ _) => hq; have hq' := hq.out; clear hq)
 cases hv : restA (ppm * ev) m pay cnt p with
 | none =>
  rw [hv] at ht
  have HT := Lib.hid ht
  have HE := Lib.hid (show enough (ppm * ev) m cnt p bal pay = false by unfold enough; rw [hv])
  clear ht hv h
  go_enter Tryz.func77, Tryz.ntmps77
  go_wp2_with fail
  refine (HT.out _ hS).mono ?_
  rintro e w1 ⟨rfl, hb1⟩
  have b1 : Below w.heap.size w w1 := bl2 hb1 Bk.be
  have z1 := b1.size
  repeat (rename Bk.Blk w _ _ _ => hq; (first | (have hq' := Bk.Blk.carry hq hb1 (by (repeat (first | with_reducible refine Bk.Blk.drew ?_ | with_reducible refine Bk.Blk.set_same ?_ | with_reducible refine Bk.Blk.set_ne ?_ (by omega) | with_reducible refine Bk.Blk.alloc ?_)); (with_reducible exact hq))) | (have hq' := Bk.Blk.later hb1 (Bk.Blk.set2 hq)) | skip); clear hq)
  try (have hn := Bk.nx ((w).heap.size) hb1)
  try (have hn := Bk.nx ((w).heap.size + 1) hb1)
  try (have hn := Bk.nx ((w).heap.size + 2) hb1)
  try (have hn := Bk.nx ((w).heap.size + 3) hb1)
  clear hb1
  repeat (rename World.cell? w _ = _ => hq; clear hq)
  repeat (rename World.frozen? w _ = _ => hq; clear hq)
  repeat (rename Bk.Blk w1 _ _ _ => hq; (first | (have _k0 := (hq).c0; have _m0 := (hq).f0) | skip); (first | (have _k1 := (hq).c1; have _m1 := (hq).f1) | skip); (first | (have _k2 := (hq).c2; have _m2 := (hq).f2) | skip); (first | (have _k3 := (hq).c3; have _m3 := (hq).f3) | skip); have _z := (hq).lt; have hk := Bk.Kept.mk hq; clear hq)
  repeat (rename Bk.Kept (Bk.Blk w1 _ _ _) => hq; have hq' := hq.out; clear hq)
  go_wp2_with fail
  go_ret
  rw [HE.out]
  exact ⟨rfl, Bk.be⟩
 | some n =>
  rw [hv] at ht
  have HT := Lib.hid ht
  have HE := Lib.hid (show enough (ppm * ev) m cnt p bal pay = decide (n ≤ bal) by unfold enough; rw [hv])
  clear ht hv h
  go_enter Tryz.func77, Tryz.ntmps77
  go_wp2_with fail
  refine (HT.out _ hS).mono ?_
  rintro e w1 ⟨rfl, hb1⟩
  have b1 : Below w.heap.size w w1 := bl2 hb1 Bk.be
  have z1 := b1.size
  repeat (rename Bk.Blk w _ _ _ => hq; (first | (have hq' := Bk.Blk.carry hq hb1 (by (repeat (first | with_reducible refine Bk.Blk.drew ?_ | with_reducible refine Bk.Blk.set_same ?_ | with_reducible refine Bk.Blk.set_ne ?_ (by omega) | with_reducible refine Bk.Blk.alloc ?_)); (with_reducible exact hq))) | (have hq' := Bk.Blk.later hb1 (Bk.Blk.set2 hq)) | skip); clear hq)
  try (have hn := Bk.nx ((w).heap.size) hb1)
  try (have hn := Bk.nx ((w).heap.size + 1) hb1)
  try (have hn := Bk.nx ((w).heap.size + 2) hb1)
  try (have hn := Bk.nx ((w).heap.size + 3) hb1)
  clear hb1
  repeat (rename World.cell? w _ = _ => hq; clear hq)
  repeat (rename World.frozen? w _ = _ => hq; clear hq)
  repeat (rename Bk.Blk w1 _ _ _ => hq; (first | (have _k0 := (hq).c0; have _m0 := (hq).f0) | skip); (first | (have _k1 := (hq).c1; have _m1 := (hq).f1) | skip); (first | (have _k2 := (hq).c2; have _m2 := (hq).f2) | skip); (first | (have _k3 := (hq).c3; have _m3 := (hq).f3) | skip); have _z := (hq).lt; have hk := Bk.Kept.mk hq; clear hq)
  repeat (rename Bk.Kept (Bk.Blk w1 _ _ _) => hq; have hq' := hq.out; clear hq)
  go_wp2_with fail
  go_ret
  rw [HE.out]
  exact ⟨rfl, Bk.be⟩

def RPLoop (w : World) (c m p bal : Int) (k : Nat) (g : Nat) (v14 v15 : Value) (wr : World) : Prop := ∃ lo hi : Int, g = (hi - lo).toNat ∧ v14 = .int .i64 lo ∧ v15 = .int .i64 hi ∧ PayRel c m k p bal lo hi ∧ hi ≤ 1000000000001 ∧ (∀ y, hi ≤ y → y ≤ 1000000000000 → enough c m k p bal y = true) ∧ w = wr
def PLoop (w : World) (ppm ev m p bal : Int) (k : Nat) (a b c d : Nat) (g : Nat) (v16 v17 : Value) (wr : World) : Prop := ∃ lo hi : Int, g = (hi - lo).toNat ∧ v16 = .int .i64 lo ∧ v17 = .int .i64 hi ∧ PayRel (ppm * ev) m k p bal lo hi ∧ hi ≤ 1000000000000 ∧ enough (ppm * ev) m k p bal hi = true ∧
 Bk.Blk wr a #[.int .i64 ppm, .int .i64 ev, .int .i64 m] 147 ∧ Bk.Blk wr b #[.int .i64 p] 3 ∧ Bk.Blk wr c #[.int .i64 k] 3 ∧ Bk.Blk wr d #[.int .i64 bal] 3 ∧ Below w.heap.size w wr

set_option maxHeartbeats 8000000 in
theorem pay_ok (p ppm ev m bal : Int) (cnt : Nat) (w : World) (hS : Stp w) (h : Ok p ppm ev m) (k1 : 1 ≤ cnt) (k2 : cnt ≤ 120) (hb0 : 0 ≤ bal) (hb1 : bal ≤ p) :
  Calls Tryz.prog 46 #[.int .i64 p, .int .i64 ppm, .int .i64 ev, .int .i64 m, .int .i64 cnt, .int .i64 bal] w fun e w' => POut p ppm ev m cnt bal e ∧ Below w.heap.size w w' := by
 have H := Lib.hid h
 have HA := Lib.hid (fun W => acc_yes p ppm ev m W h)
 have HY := Lib.hid (show pOk p ppm ev m cnt bal from ⟨h, ⟨by omega, by omega⟩, ⟨hb0, hb1⟩⟩)
 have HCN := Lib.hid (show ((cnt : Nat) : Int).toNat = cnt by omega)
 have hc1 : (1 : Int) ≤ (cnt : Int) := by omega
 have hp0 := h.1.1
 have hp1 := h.1.2
 have b0 := Below.refl w.heap.size w
 have HC := Lib.hid (fun (pay : Int) (a b c d : Nat) (W : World) (hS : Stp W) h3 h4 ha hb hc hd => clos_any p ppm ev m bal pay cnt a b c d W hS h k2 h3 h4 ha hb hc hd)
 clear h
 cases he : enough (ppm * ev) m cnt p bal 1000000000000 with
 | false =>
  have HE := Lib.hid he
  clear he
  go_enter Tryz.func46, Tryz.ntmps46
  go_wp2_with fail
  refine (HA.out _).mono ?_
  rintro e w1 ⟨rfl, hb1⟩
  have b1 : Below w.heap.size w w1 := bl2 hb1 Bk.be
  have z1 := b1.size
  repeat (rename Bk.Blk w _ _ _ => hq; (first | (have hq' := Bk.Blk.carry hq hb1 (by (repeat (first | with_reducible refine Bk.Blk.drew ?_ | with_reducible refine Bk.Blk.set_same ?_ | with_reducible refine Bk.Blk.set_ne ?_ (by omega) | with_reducible refine Bk.Blk.alloc ?_)); (with_reducible exact hq))) | (have hq' := Bk.Blk.later hb1 (Bk.Blk.set2 hq)) | skip); clear hq)
  try (have hn := Bk.nx ((w).heap.size) hb1)
  try (have hn := Bk.nx ((w).heap.size + 1) hb1)
  try (have hn := Bk.nx ((w).heap.size + 2) hb1)
  try (have hn := Bk.nx ((w).heap.size + 3) hb1)
  clear hb1
  repeat (rename World.cell? w _ = _ => hq; clear hq)
  repeat (rename World.frozen? w _ = _ => hq; clear hq)
  repeat (rename Bk.Blk w1 _ _ _ => hq; (first | (have _k0 := (hq).c0; have _m0 := (hq).f0) | skip); (first | (have _k1 := (hq).c1; have _m1 := (hq).f1) | skip); (first | (have _k2 := (hq).c2; have _m2 := (hq).f2) | skip); (first | (have _k3 := (hq).c3; have _m3 := (hq).f3) | skip); have _z := (hq).lt; have hk := Bk.Kept.mk hq; clear hq)
  repeat (rename Bk.Kept (Bk.Blk w1 _ _ _) => hq; have hq' := hq.out; clear hq)
  go_wp2_with fail
  have hcl := HC.out 1000000000000 (w.heap.size + 3) w.heap.size (w.heap.size + 1) (w.heap.size + 2) w1 (hS.of b1) (by omega) (by omega) (by assumption) (by assumption) (by assumption) (by assumption)
  rw [HE.out] at hcl
  have HCL := Lib.hid hcl
  clear hcl
  refine (HCL.out).mono ?_
  rintro e w2 ⟨rfl, hb2⟩
  have b2 : Below w.heap.size w w2 := bl2 hb2 Bk.be
  have z2 := b2.size
  repeat (rename Bk.Blk w1 _ _ _ => hq; (first | (have hq' := Bk.Blk.carry hq hb2 (by (repeat (first | with_reducible refine Bk.Blk.drew ?_ | with_reducible refine Bk.Blk.set_same ?_ | with_reducible refine Bk.Blk.set_ne ?_ (by omega) | with_reducible refine Bk.Blk.alloc ?_)); (with_reducible exact hq))) | (have hq' := Bk.Blk.later hb2 (Bk.Blk.set2 hq)) | skip); clear hq)
  try (have hn := Bk.nx ((w1).heap.size) hb2)
  try (have hn := Bk.nx ((w1).heap.size + 1) hb2)
  try (have hn := Bk.nx ((w1).heap.size + 2) hb2)
  try (have hn := Bk.nx ((w1).heap.size + 3) hb2)
  clear hb2
  repeat (rename World.cell? w1 _ = _ => hq; clear hq)
  repeat (rename World.frozen? w1 _ = _ => hq; clear hq)
  repeat (rename Bk.Blk w2 _ _ _ => hq; (first | (have _k0 := (hq).c0; have _m0 := (hq).f0) | skip); (first | (have _k1 := (hq).c1; have _m1 := (hq).f1) | skip); (first | (have _k2 := (hq).c2; have _m2 := (hq).f2) | skip); (first | (have _k3 := (hq).c3; have _m3 := (hq).f3) | skip); have _z := (hq).lt; have hk := Bk.Kept.mk hq; clear hq)
  repeat (rename Bk.Kept (Bk.Blk w2 _ _ _) => hq; have hq' := hq.out; clear hq)
  go_wp2_with fail
  go_ret2
  exact ⟨pout_over HY.out (by rw [HCN.out]; exact HE.out), Bk.be⟩
 | true =>
  have HE := Lib.hid he
  clear he
  go_enter Tryz.func46, Tryz.ntmps46
  go_wp2_with fail
  refine (HA.out _).mono ?_
  rintro e w1 ⟨rfl, hb1⟩
  have b1 : Below w.heap.size w w1 := bl2 hb1 Bk.be
  have z1 := b1.size
  repeat (rename Bk.Blk w _ _ _ => hq; (first | (have hq' := Bk.Blk.carry hq hb1 (by (repeat (first | with_reducible refine Bk.Blk.drew ?_ | with_reducible refine Bk.Blk.set_same ?_ | with_reducible refine Bk.Blk.set_ne ?_ (by omega) | with_reducible refine Bk.Blk.alloc ?_)); (with_reducible exact hq))) | (have hq' := Bk.Blk.later hb1 (Bk.Blk.set2 hq)) | skip); clear hq)
  try (have hn := Bk.nx ((w).heap.size) hb1)
  try (have hn := Bk.nx ((w).heap.size + 1) hb1)
  try (have hn := Bk.nx ((w).heap.size + 2) hb1)
  try (have hn := Bk.nx ((w).heap.size + 3) hb1)
  clear hb1
  repeat (rename World.cell? w _ = _ => hq; clear hq)
  repeat (rename World.frozen? w _ = _ => hq; clear hq)
  repeat (rename Bk.Blk w1 _ _ _ => hq; (first | (have _k0 := (hq).c0; have _m0 := (hq).f0) | skip); (first | (have _k1 := (hq).c1; have _m1 := (hq).f1) | skip); (first | (have _k2 := (hq).c2; have _m2 := (hq).f2) | skip); (first | (have _k3 := (hq).c3; have _m3 := (hq).f3) | skip); have _z := (hq).lt; have hk := Bk.Kept.mk hq; clear hq)
  repeat (rename Bk.Kept (Bk.Blk w1 _ _ _) => hq; have hq' := hq.out; clear hq)
  go_wp2_with fail
  have hcl := HC.out 1000000000000 (w.heap.size + 3) w.heap.size (w.heap.size + 1) (w.heap.size + 2) w1 (hS.of b1) (by omega) (by omega) (by assumption) (by assumption) (by assumption) (by assumption)
  rw [HE.out] at hcl
  have HCL := Lib.hid hcl
  clear hcl
  refine (HCL.out).mono ?_
  rintro e w2 ⟨rfl, hb2⟩
  have b2 : Below w.heap.size w w2 := bl2 hb2 Bk.be
  have z2 := b2.size
  repeat (rename Bk.Blk w1 _ _ _ => hq; (first | (have hq' := Bk.Blk.carry hq hb2 (by (repeat (first | with_reducible refine Bk.Blk.drew ?_ | with_reducible refine Bk.Blk.set_same ?_ | with_reducible refine Bk.Blk.set_ne ?_ (by omega) | with_reducible refine Bk.Blk.alloc ?_)); (with_reducible exact hq))) | (have hq' := Bk.Blk.later hb2 (Bk.Blk.set2 hq)) | skip); clear hq)
  try (have hn := Bk.nx ((w1).heap.size) hb2)
  try (have hn := Bk.nx ((w1).heap.size + 1) hb2)
  try (have hn := Bk.nx ((w1).heap.size + 2) hb2)
  try (have hn := Bk.nx ((w1).heap.size + 3) hb2)
  clear hb2
  repeat (rename World.cell? w1 _ = _ => hq; clear hq)
  repeat (rename World.frozen? w1 _ = _ => hq; clear hq)
  repeat (rename Bk.Blk w2 _ _ _ => hq; (first | (have _k0 := (hq).c0; have _m0 := (hq).f0) | skip); (first | (have _k1 := (hq).c1; have _m1 := (hq).f1) | skip); (first | (have _k2 := (hq).c2; have _m2 := (hq).f2) | skip); (first | (have _k3 := (hq).c3; have _m3 := (hq).f3) | skip); have _z := (hq).lt; have hk := Bk.Kept.mk hq; clear hq)
  repeat (rename Bk.Kept (Bk.Blk w2 _ _ _) => hq; have hq' := hq.out; clear hq)
  go_wp2_with fail
  go_loopg [16, 17] 1000000000000 (PLoop w ppm ev m p bal cnt (w.heap.size + 3) w.heap.size (w.heap.size + 1) (w.heap.size + 2))
  case atStart => exact ⟨0, 1000000000000, rfl, rfl, rfl, ⟨by omega, by omega, fun y a b => by omega⟩, by omega, HE.out, by assumption, by assumption, by assumption, by assumption, Bk.be⟩
  case round =>
   obtain ⟨lo, hi, hg, rfl, rfl, hr, hhi, hen, q14, q6, q10, q11, bw⟩ := hrel
   have HR := Lib.hid hr
   have HEN := Lib.hid hen
   have HGK := Lib.hid hg
   have l0 := hr.l0
   have lh := hr.lh
   clear hr hen hg
   by_cases hlt : lo < hi
   ·have hmid : lo ≤ (lo + hi) / 2 ∧ (lo + hi) / 2 < hi ∧ (lo + hi) / 2 ≤ 1000000000000 ∧ 0 ≤ (lo + hi) / 2 := by omega
    obtain ⟨m1, m2, m3, m4⟩ := hmid
    have hs0 : 0 ≤ lo + hi := by omega
    have hcl := HC.out ((lo + hi) / 2) (w.heap.size + 3) w.heap.size (w.heap.size + 1) (w.heap.size + 2) wr (hS.of bw) m4 m3 q14 q6 q10 q11
    cases he : enough (ppm * ev) m cnt p bal ((lo + hi) / 2) with
    | false =>
     rw [he] at hcl
     have HCL := Lib.hid hcl
     have HT := Lib.hid he
     clear hcl he
     go_wp2_with fail
     refine (HCL.out).mono ?_
     rintro e w3 ⟨rfl, hb3⟩
     have b3 : Below w.heap.size w w3 := bl2 hb3 Bk.be
     have z3 := b3.size
     repeat (rename Bk.Blk wr _ _ _ => hq; (first | (have hq' := Bk.Blk.carry hq hb3 (by (repeat (first | with_reducible refine Bk.Blk.drew ?_ | with_reducible refine Bk.Blk.set_same ?_ | with_reducible refine Bk.Blk.set_ne ?_ (by omega) | with_reducible refine Bk.Blk.alloc ?_)); (with_reducible exact hq))) | (have hq' := Bk.Blk.later hb3 (Bk.Blk.set2 hq)) | skip); clear hq)
     try (have hn := Bk.nx ((wr).heap.size) hb3)
     try (have hn := Bk.nx ((wr).heap.size + 1) hb3)
     try (have hn := Bk.nx ((wr).heap.size + 2) hb3)
     try (have hn := Bk.nx ((wr).heap.size + 3) hb3)
     clear hb3
     repeat (rename World.cell? wr _ = _ => hq; clear hq)
     repeat (rename World.frozen? wr _ = _ => hq; clear hq)
     repeat (rename Bk.Blk w3 _ _ _ => hq; (first | (have _k0 := (hq).c0; have _m0 := (hq).f0) | skip); (first | (have _k1 := (hq).c1; have _m1 := (hq).f1) | skip); (first | (have _k2 := (hq).c2; have _m2 := (hq).f2) | skip); (first | (have _k3 := (hq).c3; have _m3 := (hq).f3) | skip); have _z := (hq).lt; have hk := Bk.Kept.mk hq; clear hq)
     repeat (rename Bk.Kept (Bk.Blk w3 _ _ _) => hq; have hq' := hq.out; clear hq)
     go_wp2_with fail
     go_roundg (hi - ((lo + hi) / 2 + 1)).toNat
     case measure => have := HGK.out; omega
     case rel => exact ⟨(lo + hi) / 2 + 1, hi, rfl, rfl, rfl, HR.out.up H.out.rate H.out.1.1 H.out.1.2 m1 m2 HT.out, hhi, HEN.out, by assumption, by assumption, by assumption, by assumption, Bk.be⟩
    | true =>
     rw [he] at hcl
     have HCL := Lib.hid hcl
     have HT := Lib.hid he
     clear hcl he
     go_wp2_with fail
     refine (HCL.out).mono ?_
     rintro e w3 ⟨rfl, hb3⟩
     have b3 : Below w.heap.size w w3 := bl2 hb3 Bk.be
     have z3 := b3.size
     repeat (rename Bk.Blk wr _ _ _ => hq; (first | (have hq' := Bk.Blk.carry hq hb3 (by (repeat (first | with_reducible refine Bk.Blk.drew ?_ | with_reducible refine Bk.Blk.set_same ?_ | with_reducible refine Bk.Blk.set_ne ?_ (by omega) | with_reducible refine Bk.Blk.alloc ?_)); (with_reducible exact hq))) | (have hq' := Bk.Blk.later hb3 (Bk.Blk.set2 hq)) | skip); clear hq)
     try (have hn := Bk.nx ((wr).heap.size) hb3)
     try (have hn := Bk.nx ((wr).heap.size + 1) hb3)
     try (have hn := Bk.nx ((wr).heap.size + 2) hb3)
     try (have hn := Bk.nx ((wr).heap.size + 3) hb3)
     clear hb3
     repeat (rename World.cell? wr _ = _ => hq; clear hq)
     repeat (rename World.frozen? wr _ = _ => hq; clear hq)
     repeat (rename Bk.Blk w3 _ _ _ => hq; (first | (have _k0 := (hq).c0; have _m0 := (hq).f0) | skip); (first | (have _k1 := (hq).c1; have _m1 := (hq).f1) | skip); (first | (have _k2 := (hq).c2; have _m2 := (hq).f2) | skip); (first | (have _k3 := (hq).c3; have _m3 := (hq).f3) | skip); have _z := (hq).lt; have hk := Bk.Kept.mk hq; clear hq)
     repeat (rename Bk.Kept (Bk.Blk w3 _ _ _) => hq; have hq' := hq.out; clear hq)
     go_wp2_with fail
     go_roundg ((lo + hi) / 2 - lo).toNat
     case measure => have := HGK.out; omega
     case rel => exact ⟨lo, (lo + hi) / 2, rfl, rfl, rfl, HR.out.down m1, by omega, HT.out, by assumption, by assumption, by assumption, by assumption, Bk.be⟩
   ·have hlh : lo = hi := by omega
    subst hlh
    have HL := Lib.hid (show Least (ppm * ev) m cnt p bal lo from ⟨⟨l0, hhi⟩, HEN.out, HR.out.below⟩)
    go_wp2_with fail
    go_ret2
    exact ⟨pout_ok HY.out (by rw [HCN.out]; exact HL.out), Bk.be⟩

set_option maxHeartbeats 4000000 in
theorem pay_any (p ppm ev m cnt bal : Int) (w : World) (hS : Stp w) : Calls Tryz.prog 46 #[.int .i64 p, .int .i64 ppm, .int .i64 ev, .int .i64 m, .int .i64 cnt, .int .i64 bal] w fun e w' => POut p ppm ev m cnt bal e ∧ Below w.heap.size w w' := by
 by_cases hy : pOk p ppm ev m cnt bal
 ·obtain ⟨h, ⟨g1, g2⟩, ⟨g3, g4⟩⟩ := hy
  have := pay_ok p ppm ev m bal cnt.toNat w hS h (by omega) (by omega) g3 g4
  rw [show ((cnt.toNat : Nat) : Int) = cnt by omega] at this
  exact this
 ·have HN := Lib.hid hy
  have b0 := Below.refl w.heap.size w
  unfold pOk at hy
  by_cases ho : Ok p ppm ev m
  ·have HA := Lib.hid (fun W => acc_yes p ppm ev m W ho)
   by_cases h1 : cnt < 1
   ·clear hy ho
    go_enter Tryz.func46, Tryz.ntmps46
    go_wp2_with fail
    refine (HA.out _).mono ?_
    rintro e w1 ⟨rfl, hb1⟩
    have b1 : Below w.heap.size w w1 := bl2 hb1 Bk.be
    have z1 := b1.size
    repeat (rename Bk.Blk w _ _ _ => hq; (first | (have hq' := Bk.Blk.carry hq hb1 (by (repeat (first | with_reducible refine Bk.Blk.drew ?_ | with_reducible refine Bk.Blk.set_same ?_ | with_reducible refine Bk.Blk.set_ne ?_ (by omega) | with_reducible refine Bk.Blk.alloc ?_)); (with_reducible exact hq))) | (have hq' := Bk.Blk.later hb1 (Bk.Blk.set2 hq)) | skip); clear hq)
    try (have hn := Bk.nx ((w).heap.size) hb1)
    try (have hn := Bk.nx ((w).heap.size + 1) hb1)
    try (have hn := Bk.nx ((w).heap.size + 2) hb1)
    try (have hn := Bk.nx ((w).heap.size + 3) hb1)
    clear hb1
    repeat (rename World.cell? w _ = _ => hq; clear hq)
    repeat (rename World.frozen? w _ = _ => hq; clear hq)
    repeat (rename Bk.Blk w1 _ _ _ => hq; (first | (have _k0 := (hq).c0; have _m0 := (hq).f0) | skip); (first | (have _k1 := (hq).c1; have _m1 := (hq).f1) | skip); (first | (have _k2 := (hq).c2; have _m2 := (hq).f2) | skip); (first | (have _k3 := (hq).c3; have _m3 := (hq).f3) | skip); have _z := (hq).lt; have hk := Bk.Kept.mk hq; clear hq)
    repeat (rename Bk.Kept (Bk.Blk w1 _ _ _) => hq; have hq' := hq.out; clear hq)
    go_wp2_with fail
    go_ret2
    exact ⟨pout_no HN.out, Bk.be⟩
   ·have g1 : 1 ≤ cnt := by omega
    clear h1
    by_cases h2 : 120 < cnt
    ·clear hy ho
     go_enter Tryz.func46, Tryz.ntmps46
     go_wp2_with fail
     refine (HA.out _).mono ?_
     rintro e w1 ⟨rfl, hb1⟩
     have b1 : Below w.heap.size w w1 := bl2 hb1 Bk.be
     have z1 := b1.size
     repeat (rename Bk.Blk w _ _ _ => hq; (first | (have hq' := Bk.Blk.carry hq hb1 (by (repeat (first | with_reducible refine Bk.Blk.drew ?_ | with_reducible refine Bk.Blk.set_same ?_ | with_reducible refine Bk.Blk.set_ne ?_ (by omega) | with_reducible refine Bk.Blk.alloc ?_)); (with_reducible exact hq))) | (have hq' := Bk.Blk.later hb1 (Bk.Blk.set2 hq)) | skip); clear hq)
     try (have hn := Bk.nx ((w).heap.size) hb1)
     try (have hn := Bk.nx ((w).heap.size + 1) hb1)
     try (have hn := Bk.nx ((w).heap.size + 2) hb1)
     try (have hn := Bk.nx ((w).heap.size + 3) hb1)
     clear hb1
     repeat (rename World.cell? w _ = _ => hq; clear hq)
     repeat (rename World.frozen? w _ = _ => hq; clear hq)
     repeat (rename Bk.Blk w1 _ _ _ => hq; (first | (have _k0 := (hq).c0; have _m0 := (hq).f0) | skip); (first | (have _k1 := (hq).c1; have _m1 := (hq).f1) | skip); (first | (have _k2 := (hq).c2; have _m2 := (hq).f2) | skip); (first | (have _k3 := (hq).c3; have _m3 := (hq).f3) | skip); have _z := (hq).lt; have hk := Bk.Kept.mk hq; clear hq)
     repeat (rename Bk.Kept (Bk.Blk w1 _ _ _) => hq; have hq' := hq.out; clear hq)
     go_wp2_with fail
     go_ret2
     exact ⟨pout_no HN.out, Bk.be⟩
    ·have g2 : cnt ≤ 120 := by omega
     clear h2
     by_cases h3 : bal < 0
     ·clear hy ho
      go_enter Tryz.func46, Tryz.ntmps46
      go_wp2_with fail
      refine (HA.out _).mono ?_
      rintro e w1 ⟨rfl, hb1⟩
      have b1 : Below w.heap.size w w1 := bl2 hb1 Bk.be
      have z1 := b1.size
      repeat (rename Bk.Blk w _ _ _ => hq; (first | (have hq' := Bk.Blk.carry hq hb1 (by (repeat (first | with_reducible refine Bk.Blk.drew ?_ | with_reducible refine Bk.Blk.set_same ?_ | with_reducible refine Bk.Blk.set_ne ?_ (by omega) | with_reducible refine Bk.Blk.alloc ?_)); (with_reducible exact hq))) | (have hq' := Bk.Blk.later hb1 (Bk.Blk.set2 hq)) | skip); clear hq)
      try (have hn := Bk.nx ((w).heap.size) hb1)
      try (have hn := Bk.nx ((w).heap.size + 1) hb1)
      try (have hn := Bk.nx ((w).heap.size + 2) hb1)
      try (have hn := Bk.nx ((w).heap.size + 3) hb1)
      clear hb1
      repeat (rename World.cell? w _ = _ => hq; clear hq)
      repeat (rename World.frozen? w _ = _ => hq; clear hq)
      repeat (rename Bk.Blk w1 _ _ _ => hq; (first | (have _k0 := (hq).c0; have _m0 := (hq).f0) | skip); (first | (have _k1 := (hq).c1; have _m1 := (hq).f1) | skip); (first | (have _k2 := (hq).c2; have _m2 := (hq).f2) | skip); (first | (have _k3 := (hq).c3; have _m3 := (hq).f3) | skip); have _z := (hq).lt; have hk := Bk.Kept.mk hq; clear hq)
      repeat (rename Bk.Kept (Bk.Blk w1 _ _ _) => hq; have hq' := hq.out; clear hq)
      go_wp2_with fail
      go_ret2
      exact ⟨pout_no HN.out, Bk.be⟩
     ·have g3 : 0 ≤ bal := by omega
      have g4 : p < bal := by
       rcases Classical.em (p < bal) with h | h
       ·exact h
       ·exact absurd ⟨ho, ⟨g1, g2⟩, ⟨g3, by omega⟩⟩ hy
      clear h3 hy ho
      go_enter Tryz.func46, Tryz.ntmps46
      go_wp2_with fail
      refine (HA.out _).mono ?_
      rintro e w1 ⟨rfl, hb1⟩
      have b1 : Below w.heap.size w w1 := bl2 hb1 Bk.be
      have z1 := b1.size
      repeat (rename Bk.Blk w _ _ _ => hq; (first | (have hq' := Bk.Blk.carry hq hb1 (by (repeat (first | with_reducible refine Bk.Blk.drew ?_ | with_reducible refine Bk.Blk.set_same ?_ | with_reducible refine Bk.Blk.set_ne ?_ (by omega) | with_reducible refine Bk.Blk.alloc ?_)); (with_reducible exact hq))) | (have hq' := Bk.Blk.later hb1 (Bk.Blk.set2 hq)) | skip); clear hq)
      try (have hn := Bk.nx ((w).heap.size) hb1)
      try (have hn := Bk.nx ((w).heap.size + 1) hb1)
      try (have hn := Bk.nx ((w).heap.size + 2) hb1)
      try (have hn := Bk.nx ((w).heap.size + 3) hb1)
      clear hb1
      repeat (rename World.cell? w _ = _ => hq; clear hq)
      repeat (rename World.frozen? w _ = _ => hq; clear hq)
      repeat (rename Bk.Blk w1 _ _ _ => hq; (first | (have _k0 := (hq).c0; have _m0 := (hq).f0) | skip); (first | (have _k1 := (hq).c1; have _m1 := (hq).f1) | skip); (first | (have _k2 := (hq).c2; have _m2 := (hq).f2) | skip); (first | (have _k3 := (hq).c3; have _m3 := (hq).f3) | skip); have _z := (hq).lt; have hk := Bk.Kept.mk hq; clear hq)
      repeat (rename Bk.Kept (Bk.Blk w1 _ _ _) => hq; have hq' := hq.out; clear hq)
      go_wp2_with fail
      go_ret2
      exact ⟨pout_no HN.out, Bk.be⟩
  ·have HA := Lib.hid (fun W => acc_no p ppm ev m W ho)
   clear hy ho
   go_enter Tryz.func46, Tryz.ntmps46
   go_wp2_with fail
   refine (HA.out _).mono ?_
   rintro e w1 ⟨rfl, hb1⟩
   have b1 : Below w.heap.size w w1 := bl2 hb1 Bk.be
   have z1 := b1.size
   repeat (rename Bk.Blk w _ _ _ => hq; (first | (have hq' := Bk.Blk.carry hq hb1 (by (repeat (first | with_reducible refine Bk.Blk.drew ?_ | with_reducible refine Bk.Blk.set_same ?_ | with_reducible refine Bk.Blk.set_ne ?_ (by omega) | with_reducible refine Bk.Blk.alloc ?_)); (with_reducible exact hq))) | (have hq' := Bk.Blk.later hb1 (Bk.Blk.set2 hq)) | skip); clear hq)
   try (have hn := Bk.nx ((w).heap.size) hb1)
   try (have hn := Bk.nx ((w).heap.size + 1) hb1)
   try (have hn := Bk.nx ((w).heap.size + 2) hb1)
   try (have hn := Bk.nx ((w).heap.size + 3) hb1)
   clear hb1
   repeat (rename World.cell? w _ = _ => hq; clear hq)
   repeat (rename World.frozen? w _ = _ => hq; clear hq)
   repeat (rename Bk.Blk w1 _ _ _ => hq; (first | (have _k0 := (hq).c0; have _m0 := (hq).f0) | skip); (first | (have _k1 := (hq).c1; have _m1 := (hq).f1) | skip); (first | (have _k2 := (hq).c2; have _m2 := (hq).f2) | skip); (first | (have _k3 := (hq).c3; have _m3 := (hq).f3) | skip); have _z := (hq).lt; have hk := Bk.Kept.mk hq; clear hq)
   repeat (rename Bk.Kept (Bk.Blk w1 _ _ _) => hq; have hq' := hq.out; clear hq)
   go_wp2_with fail
   go_ret2
   exact ⟨pout_no HN.out, Bk.be⟩

theorem inter_yes (p ppm ev m : Int) (w : World) (hS : Stp w) (h : Ok p ppm ev m) : Calls Tryz.prog 47 #[.int .i64 p, .int .i64 ppm, .int .i64 ev, .int .i64 m] w fun e w' => e = .returned (.tuple #[.int .i64 (intr (ppm * ev) m p), .int .i64 0]) ∧ Below w.heap.size w w' := by
 have HA := Lib.hid (fun W => acc_yes p ppm ev m W h)
 have HI := Lib.hid (fun (W : World) (hS : Stp W) => int_any2 p ppm ev m W hS h)
 generalize intr (ppm * ev) m p = v at *
 have b0 := Below.refl w.heap.size w
 clear h
 go_enter Tryz.func47, Tryz.ntmps47
 go_wp2_with fail
 refine (HA.out _).mono ?_
 rintro e w1 ⟨rfl, hb1⟩
 have b1 : Below w.heap.size w w1 := bl2 hb1 Bk.be
 have z1 := b1.size
 repeat (rename Bk.Blk w _ _ _ => hq; (first | (have hq' := Bk.Blk.carry hq hb1 (by (repeat (first | with_reducible refine Bk.Blk.drew ?_ | with_reducible refine Bk.Blk.set_same ?_ | with_reducible refine Bk.Blk.set_ne ?_ (by omega) | with_reducible refine Bk.Blk.alloc ?_)); (with_reducible exact hq))) | (have hq' := Bk.Blk.later hb1 (Bk.Blk.set2 hq)) | skip); clear hq)
 try (have hn := Bk.nx ((w).heap.size) hb1)
 try (have hn := Bk.nx ((w).heap.size + 1) hb1)
 try (have hn := Bk.nx ((w).heap.size + 2) hb1)
 try (have hn := Bk.nx ((w).heap.size + 3) hb1)
 clear hb1
 repeat (rename World.cell? w _ = _ => hq; clear hq)
 repeat (rename World.frozen? w _ = _ => hq; clear hq)
 repeat (rename Bk.Blk w1 _ _ _ => hq; (first | (have _k0 := (hq).c0; have _m0 := (hq).f0) | skip); (first | (have _k1 := (hq).c1; have _m1 := (hq).f1) | skip); (first | (have _k2 := (hq).c2; have _m2 := (hq).f2) | skip); (first | (have _k3 := (hq).c3; have _m3 := (hq).f3) | skip); have _z := (hq).lt; have hk := Bk.Kept.mk hq; clear hq)
 repeat (rename Bk.Kept (Bk.Blk w1 _ _ _) => hq; have hq' := hq.out; clear hq)
 go_wp2_with fail
 refine (HI.out _ (hS.of Bk.be)).mono ?_
 rintro e w2 ⟨rfl, hb2⟩
 have b2 : Below w.heap.size w w2 := bl2 hb2 Bk.be
 have z2 := b2.size
 repeat (rename Bk.Blk w1 _ _ _ => hq; (first | (have hq' := Bk.Blk.carry hq hb2 (by (repeat (first | with_reducible refine Bk.Blk.drew ?_ | with_reducible refine Bk.Blk.set_same ?_ | with_reducible refine Bk.Blk.set_ne ?_ (by omega) | with_reducible refine Bk.Blk.alloc ?_)); (with_reducible exact hq))) | (have hq' := Bk.Blk.later hb2 (Bk.Blk.set2 hq)) | skip); clear hq)
 try (have hn := Bk.nx ((w1).heap.size) hb2)
 try (have hn := Bk.nx ((w1).heap.size + 1) hb2)
 try (have hn := Bk.nx ((w1).heap.size + 2) hb2)
 try (have hn := Bk.nx ((w1).heap.size + 3) hb2)
 clear hb2
 repeat (rename World.cell? w1 _ = _ => hq; clear hq)
 repeat (rename World.frozen? w1 _ = _ => hq; clear hq)
 repeat (rename Bk.Blk w2 _ _ _ => hq; (first | (have _k0 := (hq).c0; have _m0 := (hq).f0) | skip); (first | (have _k1 := (hq).c1; have _m1 := (hq).f1) | skip); (first | (have _k2 := (hq).c2; have _m2 := (hq).f2) | skip); (first | (have _k3 := (hq).c3; have _m3 := (hq).f3) | skip); have _z := (hq).lt; have hk := Bk.Kept.mk hq; clear hq)
 repeat (rename Bk.Kept (Bk.Blk w2 _ _ _) => hq; have hq' := hq.out; clear hq)
 go_wp2_with fail
 go_ret2
 exact ⟨rfl, Bk.be⟩
end Go.Proofs.YtlolflephnbbcaaGreatDoor.An
