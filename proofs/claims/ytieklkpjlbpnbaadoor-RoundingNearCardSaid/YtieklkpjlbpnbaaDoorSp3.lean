/-
  Split of package rounding.
-/
import Derived.Test.YtieklkpjlbpnbaaDoorSp2
import Derived.BigRegion
import Derived.Deep.CutRange
import Derived.Deep.OwnRows
namespace Go.Proofs.YtieklkpjlbpnbaaDoor.Sp
open Go.RowKit
open Go.Proofs.YtieklkpjlbpnbaaDoor
open Go.Proofs.YtieklkpjlbpnbaaDoor.Wm Go.Proofs.YtieklkpjlbpnbaaDoor.Wt Go.Proofs.YtieklkpjlbpnbaaDoor.Rd

/-- What Split of package rounding leaves. -/
def SplPost (a : Int) (ws : List Int) (w : World) (e : Ending) (w' : World) : Prop := Below w.heap.size w w' ∧
  ((okS a ws ∧ ∃ g, w.heap.size ≤ g ∧ e = .returned (.tuple #[.slice (some ⟨g, 0, none⟩) ws.length ws.length, .int .i64 0]) ∧ Bk.Blk w' g (ints (out a ws)) 3) ∨
   (¬ okS a ws ∧ e = .returned (.tuple #[.slice none 0 0, .int .i64 1])))
theorem spl_no {a : Int} {ws : List Int} {w w' : World} (h : ¬ okS a ws) (hb : Below w.heap.size w w') : SplPost a ws w (.returned (.tuple #[.slice none 0 0, .int .i64 1])) w' := ⟨hb, .inr ⟨h, rfl⟩⟩
theorem ok_rng {a : Int} {ws : List Int} (h : okS a ws) : rng ws ∧ 0 < sm ws := by
  by_cases hr : rng ws
  · have := h.2
    rw [(t_yes hr).2] at this
    exact ⟨hr, of_decide_eq_true this⟩
  · have := h.2
    rw [(t_no hr).2] at this
    simp at this
/-- Where the first loop stands. -/
def L1 (w : World) (A s : Int) (ws : List Int) (g1 g2 : Nat) (g : Nat) (s9 s46 : Value) (W : World) : Prop := ∃ k : Nat, k + g = ws.length ∧ s46 = .int .i64 k ∧ (∃ t, t = sm ((ws.take k).map fun x => A * x / s) ∧ 0 ≤ t ∧ t ≤ k * 1000000000000 ∧ s9 = .int .i64 (A - t)) ∧
  Bk.Blk W g1 (ints (upto (fun x => A * x / s) ws k)) 3 ∧ Bk.Blk W g2 (ints (upto (fun x => A * x % s) ws k)) 3 ∧ Below w.heap.size w W
/-- Where the second loop stands. -/
def L2 (w : World) (A s : Int) (ws : List Int) (g1 g2 : Nat) (g : Nat) (s9 : Value) (W : World) : Prop := ∃ ps rs, GRel s (quos A s ws) (rems A s ws) ps rs g ∧ give g ps rs = parts A s ws ∧ g ≤ 1000000000000 ∧ s9 = .int .i64 g ∧
  Bk.Blk W g1 (ints ps) 3 ∧ Bk.Blk W g2 (ints rs) 3 ∧ Below w.heap.size w W
/-- Where the search stands. -/
def L3 (rs : List Int) (W : World) (g : Nat) (s17 s87 : Value) (wy : World) : Prop := ∃ j k : Nat, j + g = rs.length ∧ s87 = .int .i64 j ∧ s17 = .int .i64 k ∧ k < rs.length ∧ amF rs g k = amax rs ∧ W = wy
/-- Where the last loop stands. -/
def L4 (w : World) (σ : Int) (ps : List Int) (g1 : Nat) (g : Nat) (s111 : Value) (W : World) : Prop := ∃ j : Nat, j + g = ps.length ∧ s111 = .int .i64 j ∧ Bk.Blk W g1 (ints (signed σ ps j)) 3 ∧ Below w.heap.size w W
theorem make_ints (n : Nat) (h : n ≤ 64) (W : World) : (Instr.makeSlice 41 (.int .i64 (n : Int)) (.int .i64 (n : Int))).run Tryd.prog W = .ok (.slice (some ⟨W.heap.size, 0, none⟩) n n) (W.alloc (.cells (ints (List.replicate n 0)) 3)) := by
  rw [run_make_row' (P := Tryd.prog) 41 3 (.int .i64 0) 8 (by kernel_rfl) (by kernel_rfl) rfl .i64 .i64 n (by omega) (by omega) W, ints_zero]
set_option maxRecDepth 100000 in
set_option maxHeartbeats 4000000 in
theorem split_any (a : Int) (b off cap : Nat) (ws : List Int) (w : World) (hne : 0 < ws.length) (hm : ws.length ≤ 9223372036854775807) (hc : ∀ j, j < ws.length → w.cell? ⟨b, off + j, none⟩ = some (.int .i64 (ws.getD j 0))) :
    Calls Tryd.prog 24 #[.int .i64 a, .slice (some ⟨b, off, none⟩) ws.length cap] w (SplPost a ws w) := by
  have b0 := Below.refl w.heap.size w
  have HC := Lib.hid hc
  have CT := Lib.hid (total_any b off cap ws w hne hm hc)
  clear hc
  by_cases hok : okS a ws
  · have hg := hok.1
    obtain ⟨hr, hs⟩ := ok_rng hok
    have CG := Lib.hid (good_yes a w hg)
    have HOK := Lib.hid hok
    have HT := Lib.hid (show tV ws = sm ws ∧ tB ws = true from ⟨(t_yes hr).1, hok.2⟩)
    have hl : ws.length ≤ 64 := hr.1.2
    have HR := Lib.hid hr
    clear hg hr hok
    go_enter Tryd.func24, Tryd.ntmps24
    go_wp2_with fail
    refine (CT.out).mono ?_
    rintro e w' ⟨rfl, rfl⟩
    rw [HT.out.1, HT.out.2]
    generalize hsm : sm ws = s at *
    have HSM := Lib.hid hsm
    clear hsm
    go_wp2_with fail
    refine (CG.out).mono ?_
    rintro e w' ⟨rfl, rfl⟩
    have hmk := make_ints ws.length hl
    obtain ⟨M, hM⟩ : ∃ M, M = ints (List.replicate ws.length 0) := ⟨_, rfl⟩
    rw [← hM] at hmk
    have HM := Lib.hid hM
    clear hM
    have hb : b < w.heap.size := World.block_lt_of_cell? _ _ (HC.out 0 hne)
    go_upto_if 34 with fail
    go_cut [8] from 33 to 34 (fun s8 wx => s8 = .int .i64 (sg a) ∧ w = wx)
    case first =>
      by_cases hneg : a < 0
      · go_wp2_with fail
        go_meet
        case rel => exact ⟨by unfold sg; rw [if_pos hneg], rfl⟩
      · go_wp2_with fail
        go_meet
        case rel => exact ⟨by unfold sg; rw [if_neg (by omega)], rfl⟩
    case rest =>
    obtain ⟨rfl, rfl⟩ := hcut
    have hσ : 0 ≤ sg a * a ∧ sg a * a ≤ 1000000000000 := by
      have h1 := HOK.out.1
      unfold gd at h1
      unfold sg
      split <;> exact ⟨by omega, by omega⟩
    obtain ⟨hA0, hA1⟩ := hσ
    obtain ⟨A, hA⟩ : ∃ A, A = sg a * a := ⟨_, rfl⟩
    rw [← hA] at hA0 hA1
    have HA := Lib.hid hA
    have hw : wrap64 (sg a * a) = A := by
      rw [← hA]; unfold wrap64; omega
    clear hA
    have hsg : sg a = 1 ∨ sg a = -1 := by unfold sg; split <;> simp
    generalize hsg' : sg a = σ at *
    have HSG := Lib.hid hsg'
    clear hsg'
    have HW := Lib.hid hw
    clear hw
    go_upto_region 8 with fail
    rw [HW.out]
    go_cut [10, 11] from 38 to 43 (fun s10 s11 wx => ∃ g1 g2 : Nat, g1 ≠ g2 ∧ w.heap.size ≤ g1 ∧ w.heap.size ≤ g2 ∧ s10 = .slice (some ⟨g1, 0, none⟩) ws.length ws.length ∧ s11 = .slice (some ⟨g2, 0, none⟩) ws.length ws.length ∧ Bk.Blk wx g1 M 3 ∧ Bk.Blk wx g2 M 3 ∧ Below w.heap.size w wx)
    case first =>
      go_region
      all_goals (go_wp2_with fail; go_meet)
      case rel => exact ⟨w.heap.size, w.heap.size + 1, by omega, by omega, by omega, rfl, rfl, Bk.Blk.drew Bk.Blk.nw20, Bk.Blk.drew Bk.Blk.nw21, (by repeat (first | assumption | exact Below.refl _ _ | refine Below.setCell ?_ (by first | exact Nat.le_refl _ | (simp; done) | (simp; omega) | omega) _ | refine Below.alloc ?_ (by first | exact Nat.le_refl _ | (simp; done) | (simp; omega) | omega) _ | refine Below.drew ?_ | exact Nat.le_refl _))⟩
      case rel => exact ⟨w.heap.size + 1, w.heap.size, by omega, by omega, by omega, rfl, rfl, Bk.Blk.drew Bk.Blk.nw21, Bk.Blk.drew Bk.Blk.nw20, (by repeat (first | assumption | exact Below.refl _ _ | refine Below.setCell ?_ (by first | exact Nat.le_refl _ | (simp; done) | (simp; omega) | omega) _ | refine Below.alloc ?_ (by first | exact Nat.le_refl _ | (simp; done) | (simp; omega) | omega) _ | refine Below.drew ?_ | exact Nat.le_refl _))⟩
    case rest =>
    obtain ⟨g1, g2, hne12, hg1, hg2, rfl, rfl, hk1, hk2, hbc⟩ := hcut
    rw [HM.out] at hk1 hk2
    have HB := Lib.hid hbc
    clear hmk HM hbc
    go_wp2_with fail
    go_loopg [9, 46] ws.length (L1 w A s ws g1 g2)
    case atStart =>
      refine ⟨0, by omega, rfl, ⟨0, by simp [sm], by omega, by omega, by simp⟩, ?_, ?_, HB.out⟩
      · rw [upto_zero]; exact hk1
      · rw [upto_zero]; exact hk2
    case round =>
      obtain ⟨k, hkg, rfl, ⟨t, ht, ht0, ht1, rfl⟩, hq1, hq2, hbr⟩ := hrel
      have HB1 := Lib.hid hbr
      have hz := hbr.size
      by_cases hlt : k < ws.length
      · have hcell : wr.cell? ⟨b, off + k, none⟩ = some (.int .i64 (ws.getD k 0)) := (World.cell?_of_block (a := ⟨b, off + k, none⟩) (hbr.block b hb)).trans (HC.out k hlt)
        obtain ⟨x0, x1, x2⟩ := wt_facts HR.out hlt
        have hs64 := sm_le HR.out
        have HS := Lib.hid (sum_succ (fun x => A * x / s) hlt)
        have HU1 := Lib.hid (upto_set (fun x => A * x / s) hlt)
        have HU2 := Lib.hid (upto_set (fun x => A * x % s) hlt)
        rw [HSM.out] at x2 hs64
        generalize ws.getD k 0 = x at *
        obtain ⟨p0, q0, q1, r0, r1⟩ := quo_facts hA0 hs x0 x2
        have hp1 : A * x ≤ 1000000000000 * 1000000000000 := Int.le_trans (Int.mul_le_mul_of_nonneg_left x1 hA0) (Int.mul_le_mul_of_nonneg_right hA1 (by omega))
        have CM := Lib.hid (fun W => mul_any A x W (by unfold I64; omega) (by unfold I64; omega))
        have CD := Lib.hid (fun W => div_any (A * x) s W (by unfold I128; omega) (by unfold I64; omega))
        have CI := Lib.hid (fun W => int_any (A * x / s) W)
        have hde : dq (A * x) s = A * x / s ∧ dr (A * x) s = A * x % s ∧ de s = 0 := ⟨if_neg (by omega), if_neg (by omega), if_neg (by omega)⟩
        have hii : ifit (A * x / s) = A * x / s ∧ iin (A * x / s) = true := ⟨if_pos (by unfold I64; omega), decide_eq_true (by unfold I64; omega)⟩
        rw [hde.1, hde.2.1, hde.2.2] at CD
        rw [hii.1, hii.2] at CI
        clear hde hii hp1 p0
        have HT2 := Lib.hid ht
        clear ht
        obtain ⟨q, hq⟩ : ∃ q, q = A * x / s := ⟨_, rfl⟩
        obtain ⟨r, hr⟩ : ∃ r, r = A * x % s := ⟨_, rfl⟩
        rw [← hq] at CD CI HS HU1 q0 q1
        rw [← hr] at CD HU2 r0 r1
        obtain ⟨m, hm'⟩ : ∃ m, m = A * x := ⟨_, rfl⟩
        rw [← hm'] at CM CD
        clear hq hr hm'
        go_wp2_with fail
        rw [HW.out]
        refine (CM.out wr).mono ?_
        rintro e w1 ⟨rfl, hb1⟩
        have b1 : Below w.heap.size w w1 := bl2 hb1 (by repeat (first | assumption | exact Below.refl _ _ | refine Below.setCell ?_ (by first | exact Nat.le_refl _ | (simp; done) | (simp; omega) | omega) _ | refine Below.alloc ?_ (by first | exact Nat.le_refl _ | (simp; done) | (simp; omega) | omega) _ | refine Below.drew ?_ | exact Nat.le_refl _))
        have z1 := b1.size
        repeat (rename Bk.Blk wr _ _ _ => hq; (first | (have hq' := Bk.Blk.carry hq hb1 (by (repeat (first | with_reducible refine Bk.Blk.drew ?_ | with_reducible refine Bk.Blk.set_same ?_ | with_reducible refine Bk.Blk.set_ne ?_ (by omega) | with_reducible refine Bk.Blk.alloc ?_)); (with_reducible exact hq))) | (have hq' := Bk.Blk.later hb1 (Bk.Blk.set2 hq)) | skip); clear hq)
        try (have hn := Bk.Blk.later (g := (wr).heap.size) hb1 (by first | with_reducible exact Bk.Blk.nw10 | with_reducible exact Bk.Blk.nw20 | with_reducible exact Bk.Blk.nw21 | with_reducible exact Bk.Blk.nw30 | with_reducible exact Bk.Blk.nw31 | with_reducible exact Bk.Blk.nw32 | with_reducible exact Bk.Blk.nw40 | with_reducible exact Bk.Blk.nw41 | with_reducible exact Bk.Blk.nw42 | with_reducible exact Bk.Blk.nw43))
        try (have hn := Bk.Blk.later (g := (wr).heap.size + 1) hb1 (by first | with_reducible exact Bk.Blk.nw10 | with_reducible exact Bk.Blk.nw20 | with_reducible exact Bk.Blk.nw21 | with_reducible exact Bk.Blk.nw30 | with_reducible exact Bk.Blk.nw31 | with_reducible exact Bk.Blk.nw32 | with_reducible exact Bk.Blk.nw40 | with_reducible exact Bk.Blk.nw41 | with_reducible exact Bk.Blk.nw42 | with_reducible exact Bk.Blk.nw43))
        try (have hn := Bk.Blk.later (g := (wr).heap.size + 2) hb1 (by first | with_reducible exact Bk.Blk.nw10 | with_reducible exact Bk.Blk.nw20 | with_reducible exact Bk.Blk.nw21 | with_reducible exact Bk.Blk.nw30 | with_reducible exact Bk.Blk.nw31 | with_reducible exact Bk.Blk.nw32 | with_reducible exact Bk.Blk.nw40 | with_reducible exact Bk.Blk.nw41 | with_reducible exact Bk.Blk.nw42 | with_reducible exact Bk.Blk.nw43))
        try (have hn := Bk.Blk.later (g := (wr).heap.size + 3) hb1 (by first | with_reducible exact Bk.Blk.nw10 | with_reducible exact Bk.Blk.nw20 | with_reducible exact Bk.Blk.nw21 | with_reducible exact Bk.Blk.nw30 | with_reducible exact Bk.Blk.nw31 | with_reducible exact Bk.Blk.nw32 | with_reducible exact Bk.Blk.nw40 | with_reducible exact Bk.Blk.nw41 | with_reducible exact Bk.Blk.nw42 | with_reducible exact Bk.Blk.nw43))
        clear hb1
        repeat (rename World.cell? wr _ = _ => hq; clear hq)
        repeat (rename World.frozen? wr _ = _ => hq; clear hq)
        repeat (rename Bk.Blk w1 _ _ _ => hq; (first | (have _k0 := (hq).c0; have _m0 := (hq).f0) | skip); (first | (have _k1 := (hq).c1; have _m1 := (hq).f1) | skip); (first | (have _k2 := (hq).c2; have _m2 := (hq).f2) | skip); (first | (have _k3 := (hq).c3; have _m3 := (hq).f3) | skip); have _z := (hq).lt; have hk := Bk.Kept.mk hq; clear hq)
        repeat (rename Bk.Kept (Bk.Blk w1 _ _ _) => hq; have hq' := hq.out; clear hq)
        go_wp2_with fail
        refine (CD.out _).mono ?_
        rintro e w2 ⟨rfl, hb2⟩
        have b2 : Below w.heap.size w w2 := bl2 hb2 (by repeat (first | assumption | exact Below.refl _ _ | refine Below.setCell ?_ (by first | exact Nat.le_refl _ | (simp; done) | (simp; omega) | omega) _ | refine Below.alloc ?_ (by first | exact Nat.le_refl _ | (simp; done) | (simp; omega) | omega) _ | refine Below.drew ?_ | exact Nat.le_refl _))
        have z2 := b2.size
        repeat (rename Bk.Blk w1 _ _ _ => hq; (first | (have hq' := Bk.Blk.carry hq hb2 (by (repeat (first | with_reducible refine Bk.Blk.drew ?_ | with_reducible refine Bk.Blk.set_same ?_ | with_reducible refine Bk.Blk.set_ne ?_ (by omega) | with_reducible refine Bk.Blk.alloc ?_)); (with_reducible exact hq))) | (have hq' := Bk.Blk.later hb2 (Bk.Blk.set2 hq)) | skip); clear hq)
        try (have hn := Bk.Blk.later (g := (w1).heap.size) hb2 (by first | with_reducible exact Bk.Blk.nw10 | with_reducible exact Bk.Blk.nw20 | with_reducible exact Bk.Blk.nw21 | with_reducible exact Bk.Blk.nw30 | with_reducible exact Bk.Blk.nw31 | with_reducible exact Bk.Blk.nw32 | with_reducible exact Bk.Blk.nw40 | with_reducible exact Bk.Blk.nw41 | with_reducible exact Bk.Blk.nw42 | with_reducible exact Bk.Blk.nw43))
        try (have hn := Bk.Blk.later (g := (w1).heap.size + 1) hb2 (by first | with_reducible exact Bk.Blk.nw10 | with_reducible exact Bk.Blk.nw20 | with_reducible exact Bk.Blk.nw21 | with_reducible exact Bk.Blk.nw30 | with_reducible exact Bk.Blk.nw31 | with_reducible exact Bk.Blk.nw32 | with_reducible exact Bk.Blk.nw40 | with_reducible exact Bk.Blk.nw41 | with_reducible exact Bk.Blk.nw42 | with_reducible exact Bk.Blk.nw43))
        try (have hn := Bk.Blk.later (g := (w1).heap.size + 2) hb2 (by first | with_reducible exact Bk.Blk.nw10 | with_reducible exact Bk.Blk.nw20 | with_reducible exact Bk.Blk.nw21 | with_reducible exact Bk.Blk.nw30 | with_reducible exact Bk.Blk.nw31 | with_reducible exact Bk.Blk.nw32 | with_reducible exact Bk.Blk.nw40 | with_reducible exact Bk.Blk.nw41 | with_reducible exact Bk.Blk.nw42 | with_reducible exact Bk.Blk.nw43))
        try (have hn := Bk.Blk.later (g := (w1).heap.size + 3) hb2 (by first | with_reducible exact Bk.Blk.nw10 | with_reducible exact Bk.Blk.nw20 | with_reducible exact Bk.Blk.nw21 | with_reducible exact Bk.Blk.nw30 | with_reducible exact Bk.Blk.nw31 | with_reducible exact Bk.Blk.nw32 | with_reducible exact Bk.Blk.nw40 | with_reducible exact Bk.Blk.nw41 | with_reducible exact Bk.Blk.nw42 | with_reducible exact Bk.Blk.nw43))
        clear hb2
        repeat (rename World.cell? w1 _ = _ => hq; clear hq)
        repeat (rename World.frozen? w1 _ = _ => hq; clear hq)
        repeat (rename Bk.Blk w2 _ _ _ => hq; (first | (have _k0 := (hq).c0; have _m0 := (hq).f0) | skip); (first | (have _k1 := (hq).c1; have _m1 := (hq).f1) | skip); (first | (have _k2 := (hq).c2; have _m2 := (hq).f2) | skip); (first | (have _k3 := (hq).c3; have _m3 := (hq).f3) | skip); have _z := (hq).lt; have hk := Bk.Kept.mk hq; clear hq)
        repeat (rename Bk.Kept (Bk.Blk w2 _ _ _) => hq; have hq' := hq.out; clear hq)
        go_wp2_with fail
        refine (CI.out _).mono ?_
        rintro e w3 ⟨rfl, hb3⟩
        have b3 : Below w.heap.size w w3 := bl2 hb3 (by repeat (first | assumption | exact Below.refl _ _ | refine Below.setCell ?_ (by first | exact Nat.le_refl _ | (simp; done) | (simp; omega) | omega) _ | refine Below.alloc ?_ (by first | exact Nat.le_refl _ | (simp; done) | (simp; omega) | omega) _ | refine Below.drew ?_ | exact Nat.le_refl _))
        have z3 := b3.size
        repeat (rename Bk.Blk w2 _ _ _ => hq; (first | (have hq' := Bk.Blk.carry hq hb3 (by (repeat (first | with_reducible refine Bk.Blk.drew ?_ | with_reducible refine Bk.Blk.set_same ?_ | with_reducible refine Bk.Blk.set_ne ?_ (by omega) | with_reducible refine Bk.Blk.alloc ?_)); (with_reducible exact hq))) | (have hq' := Bk.Blk.later hb3 (Bk.Blk.set2 hq)) | skip); clear hq)
        try (have hn := Bk.Blk.later (g := (w2).heap.size) hb3 (by first | with_reducible exact Bk.Blk.nw10 | with_reducible exact Bk.Blk.nw20 | with_reducible exact Bk.Blk.nw21 | with_reducible exact Bk.Blk.nw30 | with_reducible exact Bk.Blk.nw31 | with_reducible exact Bk.Blk.nw32 | with_reducible exact Bk.Blk.nw40 | with_reducible exact Bk.Blk.nw41 | with_reducible exact Bk.Blk.nw42 | with_reducible exact Bk.Blk.nw43))
        try (have hn := Bk.Blk.later (g := (w2).heap.size + 1) hb3 (by first | with_reducible exact Bk.Blk.nw10 | with_reducible exact Bk.Blk.nw20 | with_reducible exact Bk.Blk.nw21 | with_reducible exact Bk.Blk.nw30 | with_reducible exact Bk.Blk.nw31 | with_reducible exact Bk.Blk.nw32 | with_reducible exact Bk.Blk.nw40 | with_reducible exact Bk.Blk.nw41 | with_reducible exact Bk.Blk.nw42 | with_reducible exact Bk.Blk.nw43))
        try (have hn := Bk.Blk.later (g := (w2).heap.size + 2) hb3 (by first | with_reducible exact Bk.Blk.nw10 | with_reducible exact Bk.Blk.nw20 | with_reducible exact Bk.Blk.nw21 | with_reducible exact Bk.Blk.nw30 | with_reducible exact Bk.Blk.nw31 | with_reducible exact Bk.Blk.nw32 | with_reducible exact Bk.Blk.nw40 | with_reducible exact Bk.Blk.nw41 | with_reducible exact Bk.Blk.nw42 | with_reducible exact Bk.Blk.nw43))
        try (have hn := Bk.Blk.later (g := (w2).heap.size + 3) hb3 (by first | with_reducible exact Bk.Blk.nw10 | with_reducible exact Bk.Blk.nw20 | with_reducible exact Bk.Blk.nw21 | with_reducible exact Bk.Blk.nw30 | with_reducible exact Bk.Blk.nw31 | with_reducible exact Bk.Blk.nw32 | with_reducible exact Bk.Blk.nw40 | with_reducible exact Bk.Blk.nw41 | with_reducible exact Bk.Blk.nw42 | with_reducible exact Bk.Blk.nw43))
        clear hb3
        repeat (rename World.cell? w2 _ = _ => hq; clear hq)
        repeat (rename World.frozen? w2 _ = _ => hq; clear hq)
        repeat (rename Bk.Blk w3 _ _ _ => hq; (first | (have _k0 := (hq).c0; have _m0 := (hq).f0) | skip); (first | (have _k1 := (hq).c1; have _m1 := (hq).f1) | skip); (first | (have _k2 := (hq).c2; have _m2 := (hq).f2) | skip); (first | (have _k3 := (hq).c3; have _m3 := (hq).f3) | skip); have _z := (hq).lt; have hk := Bk.Kept.mk hq; clear hq)
        repeat (rename Bk.Kept (Bk.Blk w3 _ _ _) => hq; have hq' := hq.out; clear hq)
        rename Bk.Blk w3 g1 _ _ => hq1
        rename Bk.Blk w3 g2 _ _ => hq2
        have l1 := upto_len (fun x => A * x / s) (Nat.le_of_lt hlt)
        have l2 := upto_len (fun x => A * x % s) (Nat.le_of_lt hlt)
        have c1 := (hq1.cell k).trans (ints_get (by rw [l1]; exact hlt))
        have c2 := (hq2.cell k).trans (ints_get (by rw [l2]; exact hlt))
        have f1 := hq1.free k
        have f2 := hq2.free k
        go_wp2_with fail
        go_roundg (gk - 1)
        case measure => omega
        case rel =>
          refine ⟨k + 1, by omega, by go_num, ⟨t + q, by rw [HS.out, HT2.out], by omega, by omega, by rw [Int.sub_sub]⟩, ?_, ?_, (by repeat (first | assumption | exact Below.refl _ _ | refine Below.setCell ?_ (by first | exact Nat.le_refl _ | (simp; done) | (simp; omega) | omega) _ | refine Below.alloc ?_ (by first | exact Nat.le_refl _ | (simp; done) | (simp; omega) | omega) _ | refine Below.drew ?_ | exact Nat.le_refl _))⟩
          · rw [← HU1.out, ← ints_set]; exact Bk.Blk.set_ne (Bk.Blk.set_same hq1) hne12
          · rw [← HU2.out, ← ints_set]; exact Bk.Blk.set_same (Bk.Blk.set_ne hq2 hne12.symm)
      · have hkl : k = ws.length := by omega
        have hst := GRel.start (A := A) (ws := ws) (by rw [HSM.out]; exact hs)
        rw [HSM.out] at hst
        obtain ⟨hl0, hst⟩ := hst
        have hle : A - t = ((left A s ws).toNat : Int) := by
          rw [Int.toNat_of_nonneg hl0, ht, hkl, List.take_length]
          rfl
        rw [hle]
        rw [hkl, upto_all] at hq1 hq2
        have hleA : (left A s ws).toNat ≤ 1000000000000 := by omega
        have HST := Lib.hid hst
        have HHA := Lib.hid hleA
        generalize hL : (left A s ws).toNat = L at *
        have HL := Lib.hid hL
        have HKL := Lib.hid hkl
        clear hL hst hleA hle ht hl0 hkl
        go_wp2_with fail
        clear hlt
        go_loopg [9] L (L2 w A s ws g1 g2)
        case atStart => exact ⟨quos A s ws, rems A s ws, HST.out, by rw [← HL.out]; rfl, HHA.out, rfl, hq1, hq2, hbr⟩
        case round =>
          clear hq1 hq2 hbr HB1
          obtain ⟨ps, rs, hgr, hgv, hgb, rfl, hq1, hq2, hbr⟩ := hrel
          obtain ⟨kl1, kl2⟩ := quos_len A s ws
          have lp : ps.length = ws.length := hgr.l1.trans kl1
          have lr : rs.length = ws.length := hgr.l2.trans kl1
          by_cases hg0 : 0 < gk
          · obtain ⟨g, hg⟩ : ∃ g, gk = g + 1 := ⟨gk - 1, by omega⟩
            rw [hg] at hgr hgv
            have HG := Lib.hid hg
            have HST2 := Lib.hid (hgr.step hs)
            have HGR := Lib.hid hgr
            have HGV := Lib.hid hgv
            clear hgr hgv hg
            go_wp2_with fail
            obtain ⟨wo, rfl⟩ : ∃ wo : World, wo = wr := ⟨_, rfl⟩
            obtain ⟨go, rfl⟩ : ∃ g : Nat, g = gk := ⟨_, rfl⟩
            go_loopg [17, 87] rs.length (L3 rs wo)
            case atStart => exact ⟨0, 0, by omega, rfl, rfl, by omega, rfl, rfl⟩
            case round =>
              obtain ⟨j, k2, hj, rfl, rfl, hk2, ham, rfl⟩ := hrel
              have ck := (hq2.cell k2).trans (ints_get hk2)
              by_cases hjl : j < ws.length
              · have cj := (hq2.cell j).trans (ints_get (show j < rs.length by omega))
                have ham2 := amF_step (k := k2) hj (by omega)
                rw [ham] at ham2
                generalize rs.getD k2 0 = vk at *
                generalize rs.getD j 0 = vj at *
                by_cases hlt2 : vk < vj
                · rw [if_pos hlt2] at ham2
                  have HAM := Lib.hid ham2.symm
                  clear ham2 ham
                  go_wp2_with fail
                  go_roundg (gk - 1)
                  case measure => omega
                  case rel => exact ⟨j + 1, j, by omega, by go_num, rfl, by omega, HAM.out, rfl⟩
                · rw [if_neg hlt2] at ham2
                  have HAM := Lib.hid ham2.symm
                  clear ham2 ham
                  go_wp2_with fail
                  go_roundg (gk - 1)
                  case measure => omega
                  case rel => exact ⟨j + 1, k2, by omega, by go_num, rfl, by omega, HAM.out, rfl⟩
              · have hjr : j = rs.length := by omega
                have hk0 : gk = 0 := by omega
                rw [hk0] at ham
                have hka : k2 = amax rs := ham
                rw [← hka] at HST2
                have HKA := Lib.hid hka
                clear hka ham
                obtain ⟨d0, d1⟩ := give_bd HGR.out (show k2 < (quos A s ws).length by omega)
                have e0 := (get_quos (A := A) (S := s) (show k2 < ws.length by omega)).1
                obtain ⟨x0, x1, x2⟩ := wt_facts HR.out (show k2 < ws.length by omega)
                rw [HSM.out] at x2
                obtain ⟨_, q0, q1, _, _⟩ := quo_facts hA0 hs x0 x2
                rw [← e0] at q0 q1
                have cp := (hq1.cell k2).trans (ints_get (show k2 < ps.length by omega))
                have fp := hq1.free k2
                have fr := hq2.free k2
                have HGV2 := Lib.hid (show give g (ps.set k2 (ps.getD k2 0 + 1)) (rs.set k2 (-1)) = parts A s ws from by rw [← HGV.out]; show _ = give g _ _; rw [← HKA.out])
                generalize ps.getD k2 0 = p at *
                generalize (quos A s ws).getD k2 0 = q at *
                clear e0 hjr hk0
                have hg := HG.out
                clear HG
                have HG := Lib.hid hg
                clear hg
                go_wp2_with fail
                go_roundg (go - 1)
                case measure => omega
                case rel =>
                  have hg := HG.out
                  refine ⟨ps.set k2 (p + 1), rs.set k2 (-1), ?_, ?_, by omega, ?_, ?_, ?_, (by repeat (first | assumption | exact Below.refl _ _ | refine Below.setCell ?_ (by first | exact Nat.le_refl _ | (simp; done) | (simp; omega) | omega) _ | refine Below.alloc ?_ (by first | exact Nat.le_refl _ | (simp; done) | (simp; omega) | omega) _ | refine Below.drew ?_ | exact Nat.le_refl _))⟩
                  · rw [show go - 1 = g by omega]; exact HST2.out.1
                  · rw [show go - 1 = g by omega]; exact HGV2.out
                  · rw [show ((go - 1 : Nat) : Int) = (go : Int) - 1 by omega]
                  · rw [← ints_set]; exact Bk.Blk.set_ne (Bk.Blk.set_same hq1) hne12
                  · rw [← ints_set]; exact Bk.Blk.set_same (Bk.Blk.set_ne hq2 hne12.symm)
          · have hg00 : gk = 0 := by omega
            rw [hg00] at hgv
            have hgv' : ps = parts A s ws := hgv
            have HPS := Lib.hid hgv'
            clear hgv hgv' hgr hq2
            have HG := Lib.hid hg00
            clear hg00
            go_wp2_with fail
            go_loopg [111] ps.length (L4 w σ ps g1)
            case atStart => exact ⟨0, by omega, rfl, by rw [signed_zero]; exact hq1, hbr⟩
            case round =>
              clear hq1 hbr
              obtain ⟨j, hj, rfl, hq1, hbr⟩ := hrel
              by_cases hjl : j < ws.length
              · have hjp : j < ps.length := by omega
                have hsl := signed_len σ (Nat.le_of_lt hjp)
                have cp := (hq1.cell j).trans (ints_get (show j < (signed σ ps j).length by omega))
                rw [signed_get σ hjp] at cp
                have fp := hq1.free j
                have HSS := Lib.hid (signed_set σ hjp)
                obtain ⟨x0, x1, x2⟩ := wt_facts HR.out hjl
                have pb := parts_bd (A := A) (by rw [HSM.out]; exact hs) hA0 hjl x0 x2
                rw [HSM.out, ← HPS.out] at pb
                generalize ps.getD j 0 = p at *
                obtain ⟨p0, p1⟩ := pb
                have hpw : wrap64 (p * σ) = p * σ := by
                  unfold wrap64
                  rcases hsg with h | h <;> rw [h] <;> omega
                go_wp2_with fail
                rw [hpw]
                go_roundg (gk - 1)
                case measure => omega
                case rel => exact ⟨j + 1, by omega, by go_num, by rw [← HSS.out, ← ints_set]; exact Bk.Blk.set_same hq1, (by repeat (first | assumption | exact Below.refl _ _ | refine Below.setCell ?_ (by first | exact Nat.le_refl _ | (simp; done) | (simp; omega) | omega) _ | refine Below.alloc ?_ (by first | exact Nat.le_refl _ | (simp; done) | (simp; omega) | omega) _ | refine Below.drew ?_ | exact Nat.le_refl _))⟩
              · have hjp : j = ps.length := by omega
                rw [hjp, signed_all] at hq1
                go_wp2_with fail
                go_ret2
                refine ⟨hbr, .inl ⟨HOK.out, g1, hg1, rfl, ?_⟩⟩
                rw [HPS.out] at hq1
                show Bk.Blk wr g1 (ints ((parts (sg a * a) (sm ws) ws).map (· * sg a))) _
                rw [HSG.out, ← HA.out, HSM.out]
                exact hq1
  · have HNO := Lib.hid hok
    by_cases hg : gd a
    · have CG := Lib.hid (good_yes a w hg)
      have ht : tB ws = false := by
        cases hv : tB ws
        · rfl
        · exact absurd ⟨hg, hv⟩ hok
      have HT := Lib.hid ht
      clear hg ht hok
      go_enter Tryd.func24, Tryd.ntmps24
      go_wp2_with fail
      refine (CT.out).mono ?_
      rintro e w' ⟨rfl, rfl⟩
      rw [HT.out]
      go_wp2_with fail
      refine (CG.out).mono ?_
      rintro e w' ⟨rfl, rfl⟩
      go_wp2_with fail
      go_ret2
      exact spl_no HNO.out (Below.refl _ _)
    · have CG := Lib.hid (good_no a w hg)
      clear hg hok
      go_enter Tryd.func24, Tryd.ntmps24
      go_wp2_with fail
      refine (CT.out).mono ?_
      rintro e w' ⟨rfl, rfl⟩
      generalize tV ws = v at *
      generalize tB ws = v2 at *
      go_wp2_with fail
      refine (CG.out).mono ?_
      rintro e w' ⟨rfl, rfl⟩
      go_wp2_with fail
      go_ret2
      exact spl_no HNO.out (Below.refl _ _)
end Go.Proofs.YtieklkpjlbpnbaaDoor.Sp
