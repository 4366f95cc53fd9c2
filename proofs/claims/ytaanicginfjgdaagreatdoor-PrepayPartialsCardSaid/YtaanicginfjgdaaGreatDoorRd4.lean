/-
 The contracts of Amount, Percent and Step, of package rounding and of the reference.
-/
import Derived.Test.YtaanicginfjgdaaGreatDoorRd3
import Derived.Test.YtaanicginfjgdaaGreatDoorRf
namespace Go.Proofs.YtaanicginfjgdaaGreatDoor.Rd
open Go.RowKit
open Go.Proofs.YtaanicginfjgdaaGreatDoor
open Go.Proofs.YtaanicginfjgdaaGreatDoor.Wm Go.Proofs.YtaanicginfjgdaaGreatDoor.Wt

def gd (a : Int) : Prop := -1000000000000 ≤ a ∧ a ≤ 1000000000000
instance (a : Int) : Decidable (gd a) := by unfold gd; exact inferInstance
def amE (g m : Int) : Int := if rdE g 1603080000000 m ≠ 0 then rdE g 1603080000000 m else if gd (rdV g 1603080000000 m) then 0 else 6
def amV (g m : Int) : Int := if amE g m = 0 then rdV g 1603080000000 m else 0
def amR (g m : Int) : Int := if amE g m = 0 then g - rdV g 1603080000000 m * 1603080000000 else 0
def APost (g m : Int) (w : World) (e : Ending) (w' : World) : Prop := e = .returned (.tuple #[.int .i64 (amV g m), .agg #[.int .i64 (hi (amR g m)), .int .u64 (lo (amR g m))], .int .i64 (amE g m)]) ∧ Below w.heap.size w w'
noncomputable def pcV (a p m : Int) : Int := if gd a ∧ 0 ≤ p ∧ p ≤ 1000000 then rdV (a * p) 1000000 m else 0
noncomputable def pcE (a p m : Int) : Int := if gd a ∧ 0 ≤ p ∧ p ≤ 1000000 then rdE (a * p) 1000000 m else 1
def PPost (a p m : Int) (w : World) (e : Ending) (w' : World) : Prop := e = .returned (.tuple #[.int .i64 (pcV a p m), .int .i64 (pcE a p m)]) ∧ Below w.heap.size w w'
theorem ppost_no {a p m : Int} {w w' : World} (h : ¬ (gd a ∧ 0 ≤ p ∧ p ≤ 1000000) ∨ ¬ (1 ≤ m ∧ m ≤ 6)) (hb : Below w.heap.size w w') : PPost a p m w (.returned (.tuple #[.int .i64 0, .int .i64 1])) w' := by
 unfold PPost pcV pcE
 rcases h with h | h
 ·rw [if_neg h, if_neg h]; exact ⟨rfl, hb⟩
 ·have hk : ¬ rok 1000000 m := fun hk => h hk.2
  rw [(rd_no (x := a * p) hk).1, (rd_no (x := a * p) hk).2]
  split <;> exact ⟨rfl, hb⟩
theorem ppost_yes {a p m : Int} {w w' : World} (h : gd a ∧ 0 ≤ p ∧ p ≤ 1000000) (hb : Below w.heap.size w w') : PPost a p m w (.returned (.tuple #[.int .i64 (rdV (a * p) 1000000 m), .int .i64 (rdE (a * p) 1000000 m)])) w' := by
 unfold PPost pcV pcE
 rw [if_pos h, if_pos h]; exact ⟨rfl, hb⟩
def stOk (a s m : Int) : Prop := gd a ∧ 1 ≤ s ∧ s ≤ 1000000000000 ∧ 1 ≤ m ∧ m ≤ 6
instance (a s m : Int) : Decidable (stOk a s m) := by unfold stOk; exact inferInstance
def stE (a s m : Int) : Int := if stOk a s m then (if gd (rd a s m * s) then 0 else 6) else 1
def stV (a s m : Int) : Int := if stE a s m = 0 then rd a s m * s else 0
def SPost (a s m : Int) (w : World) (e : Ending) (w' : World) : Prop := e = .returned (.tuple #[.int .i64 (stV a s m), .int .i64 (stE a s m)]) ∧ Below w.heap.size w w'
theorem good_yes (a : Int) (w : World) (h : gd a) : Calls Tryz.prog 49 #[.int .i64 a] w fun e w' => e = .returned (.bool true) ∧ w = w' := by
 obtain ⟨h1, h2⟩ := h
 go_enter Tryz.func49, Tryz.ntmps49
 go_wp2_with fail
 go_ret
 exact ⟨by simp, rfl⟩
theorem good_no (a : Int) (w : World) (h : ¬ gd a) : Calls Tryz.prog 49 #[.int .i64 a] w fun e w' => e = .returned (.bool false) ∧ w = w' := by
 unfold gd at h
 by_cases h1 : a < -1000000000000
 ·clear h
  go_enter Tryz.func49, Tryz.ntmps49
  go_wp2_with fail
  go_ret
  exact ⟨by simp, rfl⟩
 ·have h2 : -1000000000000 ≤ a := by omega
  have h3 : 1000000000000 < a := by omega
  clear h h1
  go_enter Tryz.func49, Tryz.ntmps49
  go_wp2_with fail
  go_ret
  exact ⟨by simpa using h3, rfl⟩

theorem rgood_yes (a : Int) (w : World) (h : gd a) : Calls Tryz.prog 25 #[.int .i64 a] w fun e w' => e = .returned (.bool true) ∧ w = w' := by
 obtain ⟨h1, h2⟩ := h
 go_enter Tryz.func25, Tryz.ntmps25
 go_wp2_with fail
 go_ret
 exact ⟨by simp, rfl⟩
theorem rgood_no (a : Int) (w : World) (h : ¬ gd a) : Calls Tryz.prog 25 #[.int .i64 a] w fun e w' => e = .returned (.bool false) ∧ w = w' := by
 unfold gd at h
 by_cases h1 : a < -1000000000000
 ·clear h
  go_enter Tryz.func25, Tryz.ntmps25
  go_wp2_with fail
  go_ret
  exact ⟨by simp, rfl⟩
 ·have h2 : -1000000000000 ≤ a := by omega
  have h3 : 1000000000000 < a := by omega
  clear h h1
  go_enter Tryz.func25, Tryz.ntmps25
  go_wp2_with fail
  go_ret
  exact ⟨by simpa using h3, rfl⟩

set_option maxHeartbeats 4000000 in
theorem percent_any (a p m : Int) (w : World) (hS : Stp w) (ha : I64 a) (hp : I64 p) : Calls Tryz.prog 20 #[.int .i64 a, .int .i64 p, .int .i64 m] w (PPost a p m w) := by
 have b0 := Below.refl w.heap.size w
 by_cases hg : gd a
 ·have HG := Lib.hid hg
  by_cases p0 : 0 ≤ p
  ·by_cases p1 : p ≤ 1000000
   ·have HY := Lib.hid (show gd a ∧ 0 ≤ p ∧ p ≤ 1000000 from ⟨hg, p0, p1⟩)
    have hd := fun (W : World) (hS : Stp W) => rd_any (a * p) 1000000 m W hS (mul_bd ha hp).1 (by unfold I64; omega)
    unfold DPost at hd
    have HD := Lib.hid hd
    have HM := Lib.hid (fun W => mul_any a p W ha hp)
    clear hd hg
    generalize hz : a * p = z at HM HD
    have HZ := Lib.hid hz
    clear hz
    by_cases hm : 1 ≤ m ∧ m ≤ 6
    ·obtain ⟨m1, m6⟩ := hm
     go_enter Tryz.func20, Tryz.ntmps20
     go_wp2_with fail
     refine (good_yes _ _ HG.out).mono ?_
     rintro e w' ⟨rfl, rfl⟩
     go_wp2_with fail
     refine (valid_yes _ _ m1 m6).mono ?_
     rintro e w' ⟨rfl, rfl⟩
     go_wp2_with fail
     refine (HM.out _).mono ?_
     rintro e w1 ⟨rfl, hb1⟩
     have b1 : Below w.heap.size w w1 := bl2 hb1 Bk.be
     have z1 := b1.size
     repeat (rename Bk.Blk w _ _ _ => hq; (first | (have hq' := Bk.Blk.carry hq hb1 (by (repeat (first | with_reducible refine Bk.Blk.drew ?_ | with_reducible refine Bk.Blk.set_same ?_ | with_reducible refine Bk.Blk.set_ne ?_ (by omega) | with_reducible refine Bk.Blk.alloc ?_)); (with_reducible exact hq))) | (have hq' := Bk.Blk.later hb1 (Bk.Blk.set2 hq)) | skip); clear hq)
     try (have hn := Bk.nx ((w).heap.size) hb1)
     try (have hn := Bk.nx ((w).heap.size + 1) hb1)
     try (have hn := Bk.nx ((w).heap.size + 2) hb1)
     try (have hn := Bk.nx ((w).heap.size + 3) hb1)
     clear hb1
     repeat (rename World.cell? w _ = _ => hq; clear hq)
     repeat (rename World.frozen? w _ = _ => hq; clear hq)
     repeat (rename Bk.Blk w1 _ _ _ => hq; (first | (have _k0 := (hq).c0; have _m0 := (hq).f0) | skip); (first | (have _k1 := (hq).c1; have _m1 := (hq).f1) | skip); (first | (have _k2 := (hq).c2; have _m2 := (hq).f2) | skip); (first | (have _k3 := (hq).c3; have _m3 := (hq).f3) | skip); have _z := (hq).lt; have hk := Bk.Kept.mk hq; clear hq)
     repeat (rename Bk.Kept (Bk.Blk w1 _ _ _) => hq; have hq' := hq.out; clear hq)
     go_wp2_with fail
     refine (HD.out _ (hS.of Bk.be)).mono ?_
     rintro e w2 ⟨rfl, hb2⟩
     have b2 : Below w.heap.size w w2 := bl2 hb2 Bk.be
     have z2 := b2.size
     repeat (rename Bk.Blk w1 _ _ _ => hq; (first | (have hq' := Bk.Blk.carry hq hb2 (by (repeat (first | with_reducible refine Bk.Blk.drew ?_ | with_reducible refine Bk.Blk.set_same ?_ | with_reducible refine Bk.Blk.set_ne ?_ (by omega) | with_reducible refine Bk.Blk.alloc ?_)); (with_reducible exact hq))) | (have hq' := Bk.Blk.later hb2 (Bk.Blk.set2 hq)) | skip); clear hq)
     try (have hn := Bk.nx ((w1).heap.size) hb2)
     try (have hn := Bk.nx ((w1).heap.size + 1) hb2)
     try (have hn := Bk.nx ((w1).heap.size + 2) hb2)
     try (have hn := Bk.nx ((w1).heap.size + 3) hb2)
     clear hb2
     repeat (rename World.cell? w1 _ = _ => hq; clear hq)
     repeat (rename World.frozen? w1 _ = _ => hq; clear hq)
     repeat (rename Bk.Blk w2 _ _ _ => hq; (first | (have _k0 := (hq).c0; have _m0 := (hq).f0) | skip); (first | (have _k1 := (hq).c1; have _m1 := (hq).f1) | skip); (first | (have _k2 := (hq).c2; have _m2 := (hq).f2) | skip); (first | (have _k3 := (hq).c3; have _m3 := (hq).f3) | skip); have _z := (hq).lt; have hk := Bk.Kept.mk hq; clear hq)
     repeat (rename Bk.Kept (Bk.Blk w2 _ _ _) => hq; have hq' := hq.out; clear hq)
     go_wp2_with fail
     go_ret2
     rw [← HZ.out]
     exact ppost_yes HY.out Bk.be
    ·have HN := Lib.hid hm
     have hm' : m < 1 ∨ 6 < m := by omega
     clear hm
     go_enter Tryz.func20, Tryz.ntmps20
     go_wp2_with fail
     refine (good_yes _ _ HG.out).mono ?_
     rintro e w' ⟨rfl, rfl⟩
     go_wp2_with fail
     refine (valid_no _ _ hm').mono ?_
     rintro e w' ⟨rfl, rfl⟩
     go_wp2_with fail
     go_ret2
     exact ppost_no (.inr HN.out) Bk.be
   ·have HN := Lib.hid (show ¬ (gd a ∧ 0 ≤ p ∧ p ≤ 1000000) by omega)
    have p2 : 1000000 < p := by omega
    clear hg p1
    go_enter Tryz.func20, Tryz.ntmps20
    go_wp2_with fail
    refine (good_yes _ _ HG.out).mono ?_
    rintro e w' ⟨rfl, rfl⟩
    go_wp2_with fail
    go_ret2
    exact ppost_no (.inl HN.out) Bk.be
  ·have HN := Lib.hid (show ¬ (gd a ∧ 0 ≤ p ∧ p ≤ 1000000) by omega)
   have p2 : p < 0 := by omega
   clear hg p0
   go_enter Tryz.func20, Tryz.ntmps20
   go_wp2_with fail
   refine (good_yes _ _ HG.out).mono ?_
   rintro e w' ⟨rfl, rfl⟩
   go_wp2_with fail
   go_ret2
   exact ppost_no (.inl HN.out) Bk.be
 ·have HN := Lib.hid (show ¬ (gd a ∧ 0 ≤ p ∧ p ≤ 1000000) from fun h => hg h.1)
  have HG := Lib.hid hg
  clear hg
  go_enter Tryz.func20, Tryz.ntmps20
  go_wp2_with fail
  refine (good_no _ _ HG.out).mono ?_
  rintro e w' ⟨rfl, rfl⟩
  go_wp2_with fail
  go_ret2
  exact ppost_no (.inl HN.out) Bk.be

set_option maxHeartbeats 4000000 in
theorem rpercent_any (a p m : Int) (w : World) (ha : I64 a) (hp : I64 p) : Calls Tryz.prog 21 #[.int .i64 a, .int .i64 p, .int .i64 m] w (PPost a p m w) := by
 have b0 := Below.refl w.heap.size w
 by_cases hg : gd a
 ·have HG := Lib.hid hg
  by_cases p0 : 0 ≤ p
  ·by_cases p1 : p ≤ 1000000
   ·have HY := Lib.hid (show gd a ∧ 0 ≤ p ∧ p ≤ 1000000 from ⟨hg, p0, p1⟩)
    have hd := fun (W : World) => rrd_any (a * p) 1000000 m W (mul_bd ha hp).1 (by unfold I64; omega)
    unfold DPost at hd
    have HD := Lib.hid hd
    have HM := Lib.hid (fun W => rmul_any a p W ha hp)
    clear hd hg
    generalize hz : a * p = z at HM HD
    have HZ := Lib.hid hz
    clear hz
    go_enter Tryz.func21, Tryz.ntmps21
    go_wp2_with fail
    refine (rgood_yes _ _ HG.out).mono ?_
    rintro e w' ⟨rfl, rfl⟩
    go_wp2_with fail
    refine (HM.out _).mono ?_
    rintro e w1 ⟨rfl, hb1⟩
    have b1 : Below w.heap.size w w1 := bl2 hb1 Bk.be
    have z1 := b1.size
    repeat (rename Bk.Blk w _ _ _ => hq; (first | (have hq' := Bk.Blk.carry hq hb1 (by (repeat (first | with_reducible refine Bk.Blk.drew ?_ | with_reducible refine Bk.Blk.set_same ?_ | with_reducible refine Bk.Blk.set_ne ?_ (by omega) | with_reducible refine Bk.Blk.alloc ?_)); (with_reducible exact hq))) | (have hq' := Bk.Blk.later hb1 (Bk.Blk.set2 hq)) | skip); clear hq)
    try (have hn := Bk.nx ((w).heap.size) hb1)
    try (have hn := Bk.nx ((w).heap.size + 1) hb1)
    try (have hn := Bk.nx ((w).heap.size + 2) hb1)
    try (have hn := Bk.nx ((w).heap.size + 3) hb1)
    clear hb1
    repeat (rename World.cell? w _ = _ => hq; clear hq)
    repeat (rename World.frozen? w _ = _ => hq; clear hq)
    repeat (rename Bk.Blk w1 _ _ _ => hq; (first | (have _k0 := (hq).c0; have _m0 := (hq).f0) | skip); (first | (have _k1 := (hq).c1; have _m1 := (hq).f1) | skip); (first | (have _k2 := (hq).c2; have _m2 := (hq).f2) | skip); (first | (have _k3 := (hq).c3; have _m3 := (hq).f3) | skip); have _z := (hq).lt; have hk := Bk.Kept.mk hq; clear hq)
    repeat (rename Bk.Kept (Bk.Blk w1 _ _ _) => hq; have hq' := hq.out; clear hq)
    go_wp2_with fail
    refine (HD.out _ ).mono ?_
    rintro e w2 ⟨rfl, hb2⟩
    have b2 : Below w.heap.size w w2 := bl2 hb2 Bk.be
    have z2 := b2.size
    repeat (rename Bk.Blk w1 _ _ _ => hq; (first | (have hq' := Bk.Blk.carry hq hb2 (by (repeat (first | with_reducible refine Bk.Blk.drew ?_ | with_reducible refine Bk.Blk.set_same ?_ | with_reducible refine Bk.Blk.set_ne ?_ (by omega) | with_reducible refine Bk.Blk.alloc ?_)); (with_reducible exact hq))) | (have hq' := Bk.Blk.later hb2 (Bk.Blk.set2 hq)) | skip); clear hq)
    try (have hn := Bk.nx ((w1).heap.size) hb2)
    try (have hn := Bk.nx ((w1).heap.size + 1) hb2)
    try (have hn := Bk.nx ((w1).heap.size + 2) hb2)
    try (have hn := Bk.nx ((w1).heap.size + 3) hb2)
    clear hb2
    repeat (rename World.cell? w1 _ = _ => hq; clear hq)
    repeat (rename World.frozen? w1 _ = _ => hq; clear hq)
    repeat (rename Bk.Blk w2 _ _ _ => hq; (first | (have _k0 := (hq).c0; have _m0 := (hq).f0) | skip); (first | (have _k1 := (hq).c1; have _m1 := (hq).f1) | skip); (first | (have _k2 := (hq).c2; have _m2 := (hq).f2) | skip); (first | (have _k3 := (hq).c3; have _m3 := (hq).f3) | skip); have _z := (hq).lt; have hk := Bk.Kept.mk hq; clear hq)
    repeat (rename Bk.Kept (Bk.Blk w2 _ _ _) => hq; have hq' := hq.out; clear hq)
    go_wp2_with fail
    go_ret2
    rw [← HZ.out]
    exact ppost_yes HY.out Bk.be
   ·have HN := Lib.hid (show ¬ (gd a ∧ 0 ≤ p ∧ p ≤ 1000000) by omega)
    have p2 : 1000000 < p := by omega
    clear hg p1
    go_enter Tryz.func21, Tryz.ntmps21
    go_wp2_with fail
    refine (rgood_yes _ _ HG.out).mono ?_
    rintro e w' ⟨rfl, rfl⟩
    go_wp2_with fail
    go_ret2
    exact ppost_no (.inl HN.out) Bk.be
  ·have HN := Lib.hid (show ¬ (gd a ∧ 0 ≤ p ∧ p ≤ 1000000) by omega)
   have p2 : p < 0 := by omega
   clear hg p0
   go_enter Tryz.func21, Tryz.ntmps21
   go_wp2_with fail
   refine (rgood_yes _ _ HG.out).mono ?_
   rintro e w' ⟨rfl, rfl⟩
   go_wp2_with fail
   go_ret2
   exact ppost_no (.inl HN.out) Bk.be
 ·have HN := Lib.hid (show ¬ (gd a ∧ 0 ≤ p ∧ p ≤ 1000000) from fun h => hg h.1)
  have HG := Lib.hid hg
  clear hg
  go_enter Tryz.func21, Tryz.ntmps21
  go_wp2_with fail
  refine (rgood_no _ _ HG.out).mono ?_
  rintro e w' ⟨rfl, rfl⟩
  go_wp2_with fail
  go_ret2
  exact ppost_no (.inl HN.out) Bk.be

end Go.Proofs.YtaanicginfjgdaaGreatDoor.Rd
