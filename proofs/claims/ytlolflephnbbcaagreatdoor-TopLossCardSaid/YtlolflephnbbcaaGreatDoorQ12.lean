/-
  Parts of the proof: Pv1, Ar1.
-/
import Derived.Test.YtlolflephnbbcaaGreatDoorQ10
import Derived.Test.YtlolflephnbbcaaGreatDoorQ11
import Derived.Deep.Cut
import Derived.Test.YtlolflephnbbcaaGreatDoorQ09
namespace Go.Proofs.YtlolflephnbbcaaGreatDoor.Ln
open Go.RowKit
open Go.Proofs.YtlolflephnbbcaaGreatDoor

def dyR (w : World) (l : Lo) (da ca : Option Addr) (dk ck : Nat) (on : Int) (g : Nat) (s5 s6 s12 : Value) (W : World) : Prop := ∃ (k : Nat) (p i : Int), k + g = l.ds.length ∧ s12 = .int .i64 k ∧ s5 = .int .i64 p ∧ s6 = .int .i64 i ∧ dys l.pp l.pi on (l.ds.drop k) p i = daysL l on ∧ Bk.Blk W w.heap.size #[.int .i64 (l).id, .int .i64 (l).ac, .int .i64 (l).st, .int .i64 (l).pp, .int .i64 (l).pi, .int .i64 (l).fee, .int .i64 (l).pen, .int .i64 (l).chg, .int .i64 (l).prov, .int .i64 (l).loss, .int .i64 (l).rcv, .int .i64 ((l).tm).me, .int .i64 ((l).tm).pr, .int .i64 ((l).tm).ppm, .int .i64 ((l).tm).stt, .int .i64 ((l).tm).ev, .int .i64 ((l).tm).ct, .int .i64 ((l).tm).ba, .int .i64 ((l).tm).mo, .int .i64 ((l).tm).pen, .int .i64 ((l).tm).fe, .string ((l).tm).cal, .string ((l).tm).cur, .slice da (l).ds.length dk, .slice ca (l).cs.length ck] 32 ∧ Below w.heap.size w W

set_option maxHeartbeats 8000000 in
theorem days_any (l : Lo) (da ca : Option Addr) (dk ck : Nat) (on : Int) (w : World) (h : DuesIn w da l.ds) :
  Calls Tryz.prog 20 #[(.agg #[.int .i64 (l).id, .int .i64 (l).ac, .int .i64 (l).st, .int .i64 (l).pp, .int .i64 (l).pi, .int .i64 (l).fee, .int .i64 (l).pen, .int .i64 (l).chg, .int .i64 (l).prov, .int .i64 (l).loss, .int .i64 (l).rcv, .int .i64 ((l).tm).me, .int .i64 ((l).tm).pr, .int .i64 ((l).tm).ppm, .int .i64 ((l).tm).stt, .int .i64 ((l).tm).ev, .int .i64 ((l).tm).ct, .int .i64 ((l).tm).ba, .int .i64 ((l).tm).mo, .int .i64 ((l).tm).pen, .int .i64 ((l).tm).fe, .string ((l).tm).cal, .string ((l).tm).cur, .slice da (l).ds.length dk, .slice ca (l).cs.length ck]), .int .i64 on] w fun e w' => e = .returned (.int .i64 (daysL l on)) ∧ Below w.heap.size w w' := by
 have H := Lib.hid h
 have hn := h.1
 have b1 : Below w.heap.size w (w.alloc (.cells #[.int .i64 (l).id, .int .i64 (l).ac, .int .i64 (l).st, .int .i64 (l).pp, .int .i64 (l).pi, .int .i64 (l).fee, .int .i64 (l).pen, .int .i64 (l).chg, .int .i64 (l).prov, .int .i64 (l).loss, .int .i64 (l).rcv, .int .i64 ((l).tm).me, .int .i64 ((l).tm).pr, .int .i64 ((l).tm).ppm, .int .i64 ((l).tm).stt, .int .i64 ((l).tm).ev, .int .i64 ((l).tm).ct, .int .i64 ((l).tm).ba, .int .i64 ((l).tm).mo, .int .i64 ((l).tm).pen, .int .i64 ((l).tm).fe, .string ((l).tm).cal, .string ((l).tm).cur, .slice da (l).ds.length dk, .slice ca (l).cs.length ck] 32)) := (Below.refl _ _).alloc (Nat.le_refl _) _
 have k0 := Bk.Blk.nw10 (W := w) (cs := #[.int .i64 (l).id, .int .i64 (l).ac, .int .i64 (l).st, .int .i64 (l).pp, .int .i64 (l).pi, .int .i64 (l).fee, .int .i64 (l).pen, .int .i64 (l).chg, .int .i64 (l).prov, .int .i64 (l).loss, .int .i64 (l).rcv, .int .i64 ((l).tm).me, .int .i64 ((l).tm).pr, .int .i64 ((l).tm).ppm, .int .i64 ((l).tm).stt, .int .i64 ((l).tm).ev, .int .i64 ((l).tm).ct, .int .i64 ((l).tm).ba, .int .i64 ((l).tm).mo, .int .i64 ((l).tm).pen, .int .i64 ((l).tm).fe, .string ((l).tm).cal, .string ((l).tm).cur, .slice da (l).ds.length dk, .slice ca (l).cs.length ck]) (t := 32)
 have l23 := k0.c23
 clear h
 go_enter Tryz.func20, Tryz.ntmps20
 go_wp2_with fail
 clear l23
 go_loopg [5, 6, 12] l.ds.length (dyR w l da ca dk ck on)
 case atStart => exact ⟨0, 0, 0, by omega, rfl, rfl, rfl, rfl, k0, b1⟩
 case round =>
  clear k0 b1
  obtain ⟨k, p, i, hk, rfl, rfl, rfl, hd, k0, hbr⟩ := hrel
  have l3 := k0.c3
  have l4 := k0.c4
  have l23 := k0.c23
  have HD := Lib.hid hd
  have hz := k0.lt
  clear hd
  by_cases hlt : k < l.ds.length
  ·obtain ⟨b, off, rfl, hc⟩ := (H.out.later hbr).2 (by omega)
   obtain ⟨c0, c1, c2, c3⟩ := hc k hlt
   have hs := HD.out
   rw [dys_step hlt] at hs
   have HS := Lib.hid hs
   clear hc hs
   generalize l.ds[k]! = x at *
   have hal : Below wr.heap.size wr (wr.alloc (.cells #[.int .i64 x.no, .int .i64 x.day, .int .i64 x.pr, .int .i64 x.it] 47)) := (Below.refl _ _).alloc (Nat.le_refl _) _
   have k1 := k0.later hal
   have b1 := bl2 hal hbr
   have m3 := k1.c3
   have m4 := k1.c4
   obtain ⟨p', hp'⟩ : ∃ p', p' = wrap64 (p + x.pr) := ⟨_, rfl⟩
   obtain ⟨i', hi'⟩ : ∃ i', i' = wrap64 (i + x.it) := ⟨_, rfl⟩
   have HP := Lib.hid hp'.symm
   have HI := Lib.hid hi'.symm
   rw [HP.out, HI.out] at HS
   clear hp' hi' hal
   by_cases h1 : x.day ≤ on
   ·have g1 : decide (x.day ≤ on) = true := decide_eq_true h1
    by_cases h2 : l.pp < p'
    ·have HE := Lib.hid (show wrap64 (on - x.day) = daysL l on by rw [← HS.out, if_pos ⟨h1, .inl h2⟩])
     have g2 : decide (l.pp < p') = true := decide_eq_true h2
     go_upto_region 7 with fail
     rw [HP.out, HI.out]
     go_wp2_with fail
     go_ret
     exact ⟨by rw [← HE.out]; rfl, b1⟩
    ·have g2 : decide (l.pp < p') = false := decide_eq_false h2
     by_cases h3 : l.pi < i'
     ·have HE := Lib.hid (show wrap64 (on - x.day) = daysL l on by rw [← HS.out, if_pos ⟨h1, .inr h3⟩])
      have g3 : decide (l.pi < i') = true := decide_eq_true h3
      go_upto_region 7 with fail
      rw [HP.out, HI.out]
      go_wp2_with fail
      go_ret
      exact ⟨by rw [← HE.out]; rfl, b1⟩
     ·have g3 : decide (l.pi < i') = false := decide_eq_false h3
      have HE := Lib.hid (show dys l.pp l.pi on (l.ds.drop (k + 1)) p' i' = daysL l on by rw [← HS.out, if_neg (fun h => h.2.elim h2 h3)])
      go_upto_region 7 with fail
      rw [HP.out, HI.out]
      go_wp2_with fail
      go_roundg (gk - 1)
      case measure => omega
      case rel => exact ⟨k + 1, p', i', by omega, by go_num, rfl, rfl, HE.out, k1, b1⟩
   ·have g1 : decide (x.day ≤ on) = false := decide_eq_false h1
    have HE := Lib.hid (show dys l.pp l.pi on (l.ds.drop (k + 1)) p' i' = daysL l on by rw [← HS.out, if_neg (fun h => h1 h.1)])
    go_upto_region 7 with fail
    rw [HP.out, HI.out]
    go_wp2_with fail
    go_roundg (gk - 1)
    case measure => omega
    case rel => exact ⟨k + 1, p', i', by omega, by go_num, rfl, rfl, HE.out, k1, b1⟩
  ·have HE := Lib.hid (show 0 = daysL l on by rw [← HD.out, dys_end hlt])
   go_wp2_with fail
   go_ret
   exact ⟨by rw [← HE.out]; rfl, hbr⟩

structure Ctb (W : World) : Prop where
 c0 : W.cell? ⟨0, 0, none⟩ = some (.int .i64 0)
 c1 : W.cell? ⟨0, 1, none⟩ = some (.int .i64 30)
 c2 : W.cell? ⟨0, 2, none⟩ = some (.int .i64 60)
 c3 : W.cell? ⟨0, 3, none⟩ = some (.int .i64 90)
theorem Ctb.of {W w1 : World} (h : Ctb W) (hb : Below W.heap.size W w1) : Ctb w1 := ⟨cell_later hb h.c0, cell_later hb h.c1, cell_later hb h.c2, cell_later hb h.c3⟩
def bkR (w : World) (d : Int) (g : Nat) (s6 : Value) (W : World) : Prop := ∃ k : Nat, k + g = 4 ∧ s6 = .int .i64 k ∧ ((0 < k → 0 < d) ∧ (1 < k → 30 < d) ∧ (2 < k → 60 < d) ∧ (3 < k → 90 < d)) ∧ w = W
set_option maxHeartbeats 4000000 in
theorem bucket_any (d : Int) (w : World) (hC : Ctb w) : Calls Tryz.prog 19 #[.int .i64 d] w fun e w' => e = .returned (.int .i64 (bkt d)) ∧ w = w' := by
 have x0 := ix4_0 (.int .i64 0) (.int .i64 30) (.int .i64 60) (.int .i64 90)
 have x1 := ix4_1 (.int .i64 0) (.int .i64 30) (.int .i64 60) (.int .i64 90)
 have x2 := ix4_2 (.int .i64 0) (.int .i64 30) (.int .i64 60) (.int .i64 90)
 have x3 := ix4_3 (.int .i64 0) (.int .i64 30) (.int .i64 60) (.int .i64 90)
 have HW := Lib.hid (bkt_ways d)
 have l0 := hC.c0
 have l1 := hC.c1
 have l2 := hC.c2
 have l3 := hC.c3
 go_enter Tryz.func19, Tryz.ntmps19
 go_wp2_with fail
 go_loopg [6] 4 (bkR w d)
 case atStart => exact ⟨0, by omega, rfl, by omega, rfl⟩
 case round =>
  obtain ⟨k, hk, rfl, ⟨t0, t1, t2, t3⟩, rfl⟩ := hrel
  have hk5 : k = 0 ∨ k = 1 ∨ k = 2 ∨ k = 3 ∨ k = 4 := by omega
  rcases hk5 with rfl | rfl | rfl | rfl | rfl
  ·by_cases hd : d ≤ 0
   ·have HE := Lib.hid (show bkt d = 0 by have := HW.out; omega)
    have g1 : decide (d ≤ 0) = true := decide_eq_true hd
    clear t0 t1 t2 t3
    go_wp2_with fail
    go_ret
    exact ⟨by rw [HE.out]; rfl, rfl⟩
   ·have g1 : decide (d ≤ 0) = false := decide_eq_false hd
    clear t0 t1 t2 t3
    go_wp2_with fail
    go_roundg (gk - 1)
    case measure => omega
    case rel => exact ⟨1, by omega, rfl, by omega, rfl⟩
  ·by_cases hd : d ≤ 30
   ·have HE := Lib.hid (show bkt d = 1 by have := HW.out; omega)
    have g1 : decide (d ≤ 30) = true := decide_eq_true hd
    clear t0 t1 t2 t3
    go_wp2_with fail
    go_ret
    exact ⟨by rw [HE.out]; rfl, rfl⟩
   ·have g1 : decide (d ≤ 30) = false := decide_eq_false hd
    clear t0 t1 t2 t3
    go_wp2_with fail
    go_roundg (gk - 1)
    case measure => omega
    case rel => exact ⟨2, by omega, rfl, by omega, rfl⟩
  ·by_cases hd : d ≤ 60
   ·have HE := Lib.hid (show bkt d = 2 by have := HW.out; omega)
    have g1 : decide (d ≤ 60) = true := decide_eq_true hd
    clear t0 t1 t2 t3
    go_wp2_with fail
    go_ret
    exact ⟨by rw [HE.out]; rfl, rfl⟩
   ·have g1 : decide (d ≤ 60) = false := decide_eq_false hd
    clear t0 t1 t2 t3
    go_wp2_with fail
    go_roundg (gk - 1)
    case measure => omega
    case rel => exact ⟨3, by omega, rfl, by omega, rfl⟩
  ·by_cases hd : d ≤ 90
   ·have HE := Lib.hid (show bkt d = 3 by have := HW.out; omega)
    have g1 : decide (d ≤ 90) = true := decide_eq_true hd
    clear t0 t1 t2 t3
    go_wp2_with fail
    go_ret
    exact ⟨by rw [HE.out]; rfl, rfl⟩
   ·have g1 : decide (d ≤ 90) = false := decide_eq_false hd
    clear t0 t1 t2 t3
    go_wp2_with fail
    go_roundg (gk - 1)
    case measure => omega
    case rel => exact ⟨4, by omega, rfl, by omega, rfl⟩
  ·have HE := Lib.hid (show bkt d = 4 by have := HW.out; omega)
   clear t0 t1 t2 t3
   go_wp2_with fail
   go_ret
   exact ⟨by rw [HE.out]; rfl, rfl⟩

theorem prate_any (s : Int) (w : World) : Calls Tryz.prog 41 #[.int .i64 s] w fun e w' => e = .returned (.int .i64 (rteS s)) ∧ Below w.heap.size w w' := by
 rcases rteS_ways s with ⟨rfl, e⟩ | ⟨rfl, e⟩ | ⟨rfl, e⟩ | ⟨h1, h2, h3, e⟩
 ·rw [e]
  clear e
  go_enter Tryz.func41, Tryz.ntmps41
  go_wp2_with fail
  go_ret
  exact ⟨rfl, (Below.refl _ _).alloc (Nat.le_refl _) _⟩
 ·rw [e]
  clear e
  go_enter Tryz.func41, Tryz.ntmps41
  go_wp2_with fail
  go_ret
  exact ⟨rfl, (Below.refl _ _).alloc (Nat.le_refl _) _⟩
 ·rw [e]
  clear e
  go_enter Tryz.func41, Tryz.ntmps41
  go_wp2_with fail
  go_ret
  exact ⟨rfl, (Below.refl _ _).alloc (Nat.le_refl _) _⟩
 ·rw [e]
  clear e
  by_cases a : s < 0
  ·have g1 : decide (s < 0) = true := decide_eq_true a
   go_enter Tryz.func41, Tryz.ntmps41
   go_wp2_with fail
   go_ret
   exact ⟨rfl, (Below.refl _ _).alloc (Nat.le_refl _) _⟩
  ·by_cases b : 4 ≤ s
   ·have g1 : decide (s < 0) = false := decide_eq_false a
    have g2 : decide (4 ≤ s) = true := decide_eq_true b
    go_enter Tryz.func41, Tryz.ntmps41
    go_wp2_with fail
    go_ret
    exact ⟨rfl, (Below.refl _ _).alloc (Nat.le_refl _) _⟩
   ·obtain rfl : s = 0 := by omega
    go_enter Tryz.func41, Tryz.ntmps41
    go_wp2_with fail
    go_ret
    exact ⟨rfl, (Below.refl _ _).alloc (Nat.le_refl _) _⟩
set_option linter.unusedSimpArgs false

def odR (w : World) (l : Lo) (da ca : Option Addr) (dk ck : Nat) (on : Int) (g : Nat) (s5 s11 : Value) (W : World) : Prop := ∃ k : Nat, k + g = l.ds.length ∧ s11 = .int .i64 k ∧ s5 = .int .i64 (P (due (l.ds.take k) on)) ∧ Bk.Blk W w.heap.size #[.int .i64 (l).id, .int .i64 (l).ac, .int .i64 (l).st, .int .i64 (l).pp, .int .i64 (l).pi, .int .i64 (l).fee, .int .i64 (l).pen, .int .i64 (l).chg, .int .i64 (l).prov, .int .i64 (l).loss, .int .i64 (l).rcv, .int .i64 ((l).tm).me, .int .i64 ((l).tm).pr, .int .i64 ((l).tm).ppm, .int .i64 ((l).tm).stt, .int .i64 ((l).tm).ev, .int .i64 ((l).tm).ct, .int .i64 ((l).tm).ba, .int .i64 ((l).tm).mo, .int .i64 ((l).tm).pen, .int .i64 ((l).tm).fe, .string ((l).tm).cal, .string ((l).tm).cur, .slice da (l).ds.length dk, .slice ca (l).cs.length ck] 32 ∧ Below w.heap.size w W
end Go.Proofs.YtlolflephnbbcaaGreatDoor.Ln
