/-
 The contract of annuity's Interest; and the examples that every statement about annuities requires: they hold.
-/
import Derived.Test.YtaanicginfjgdaaGreatDoorAn4
namespace Go.Proofs.YtaanicginfjgdaaGreatDoor.An
open Go.RowKit
open Go.Proofs.YtaanicginfjgdaaGreatDoor
open Go.Proofs.YtaanicginfjgdaaGreatDoor.Wm Go.Proofs.YtaanicginfjgdaaGreatDoor.Wt Go.Proofs.YtaanicginfjgdaaGreatDoor.Rd

theorem inter_yes (p ppm ev m : Int) (w : World) (hS : Stp w) (h : Ok p ppm ev m) : Calls Tryz.prog 70 #[.int .i64 p, .int .i64 ppm, .int .i64 ev, .int .i64 m] w fun e w' => e = .returned (.tuple #[.int .i64 (intr (ppm * ev) m p), .int .i64 0]) ∧ Below w.heap.size w w' := by
 have HA := Lib.hid (fun W => acc_yes p ppm ev m W h)
 have HI := Lib.hid (fun (W : World) (hS : Stp W) => int_any2 p ppm ev m W hS h)
 generalize intr (ppm * ev) m p = v at *
 have b0 := Below.refl w.heap.size w
 clear h
 go_enter Tryz.func70, Tryz.ntmps70
 go_wp2_with fail
 refine (HA.out _).mono ?_
 rintro e w1 ⟨rfl, hb1⟩
 have b1 : Below w.heap.size w w1 := bl2 hb1 Bk.be
 have z1 := b1.size
 repeat (rename Bk.Blk w _ _ _ => hq; (first | (have hq' := Bk.Blk.carry hq hb1 (by (repeat (first | with_reducible refine Bk.Blk.drew ?_ | with_reducible refine Bk.Blk.set_same ?_ | with_reducible refine Bk.Blk.set_ne ?_ (by omega) | with_reducible refine Bk.Blk.alloc ?_)); (with_reducible exact hq))) | (have hq' := Bk.Blk.later hb1 (Bk.Blk.set2 hq)) | skip); clear hq)
 try (have hn := Bk.nx ((w).heap.size) hb1)
 try (have hn := Bk.nx ((w).heap.size + 1) hb1)
 try (have hn := Bk.nx ((w).heap.size + 2) hb1)
 try (have hn := Bk.nx ((w).heap.size + 3) hb1)
 clear hb1
 repeat (rename World.cell? w _ = _ => hq; clear hq)
 repeat (rename World.frozen? w _ = _ => hq; clear hq)
 repeat (rename Bk.Blk w1 _ _ _ => hq; (first | (have _k0 := (hq).c0; have _m0 := (hq).f0) | skip); (first | (have _k1 := (hq).c1; have _m1 := (hq).f1) | skip); (first | (have _k2 := (hq).c2; have _m2 := (hq).f2) | skip); (first | (have _k3 := (hq).c3; have _m3 := (hq).f3) | skip); have _z := (hq).lt; have hk := Bk.Kept.mk hq; clear hq)
 repeat (rename Bk.Kept (Bk.Blk w1 _ _ _) => hq; have hq' := hq.out; clear hq)
 go_wp2_with fail
 refine (HI.out _ (hS.of Bk.be)).mono ?_
 rintro e w2 ⟨rfl, hb2⟩
 have b2 : Below w.heap.size w w2 := bl2 hb2 Bk.be
 have z2 := b2.size
 repeat (rename Bk.Blk w1 _ _ _ => hq; (first | (have hq' := Bk.Blk.carry hq hb2 (by (repeat (first | with_reducible refine Bk.Blk.drew ?_ | with_reducible refine Bk.Blk.set_same ?_ | with_reducible refine Bk.Blk.set_ne ?_ (by omega) | with_reducible refine Bk.Blk.alloc ?_)); (with_reducible exact hq))) | (have hq' := Bk.Blk.later hb2 (Bk.Blk.set2 hq)) | skip); clear hq)
 try (have hn := Bk.nx ((w1).heap.size) hb2)
 try (have hn := Bk.nx ((w1).heap.size + 1) hb2)
 try (have hn := Bk.nx ((w1).heap.size + 2) hb2)
 try (have hn := Bk.nx ((w1).heap.size + 3) hb2)
 clear hb2
 repeat (rename World.cell? w1 _ = _ => hq; clear hq)
 repeat (rename World.frozen? w1 _ = _ => hq; clear hq)
 repeat (rename Bk.Blk w2 _ _ _ => hq; (first | (have _k0 := (hq).c0; have _m0 := (hq).f0) | skip); (first | (have _k1 := (hq).c1; have _m1 := (hq).f1) | skip); (first | (have _k2 := (hq).c2; have _m2 := (hq).f2) | skip); (first | (have _k3 := (hq).c3; have _m3 := (hq).f3) | skip); have _z := (hq).lt; have hk := Bk.Kept.mk hq; clear hq)
 repeat (rename Bk.Kept (Bk.Blk w2 _ _ _) => hq; have hq' := hq.out; clear hq)
 go_wp2_with fail
 go_ret2
 exact ⟨rfl, Bk.be⟩
end Go.Proofs.YtaanicginfjgdaaGreatDoor.An
