/-
 The contracts of Payment, of annuity and of the reference.
-/
import Derived.Test.YtaanicginfjgdaaGreatDoorAna
namespace Go.Proofs.YtaanicginfjgdaaGreatDoor.An
open Go.RowKit
open Go.Proofs.YtaanicginfjgdaaGreatDoor
open Go.Proofs.YtaanicginfjgdaaGreatDoor.Wm Go.Proofs.YtaanicginfjgdaaGreatDoor.Wt Go.Proofs.YtaanicginfjgdaaGreatDoor.Rd

def pOk (p ppm ev m cnt bal : Int) : Prop := Ok p ppm ev m ∧ (1 ≤ cnt ∧ cnt ≤ 120) ∧ (0 ≤ bal ∧ bal ≤ p)
instance (p ppm ev m cnt bal : Int) : Decidable (pOk p ppm ev m cnt bal) := by unfold pOk; exact inferInstance
def POut (p ppm ev m cnt bal : Int) (e : Ending) : Prop := ∃ v c : Int, e = .returned (.tuple #[.int .i64 v, .int .i64 c]) ∧
 ((¬ pOk p ppm ev m cnt bal ∧ v = 0 ∧ c = 1) ∨ (pOk p ppm ev m cnt bal ∧ enough (ppm * ev) m cnt.toNat p bal 1000000000000 = true ∧ Least (ppm * ev) m cnt.toNat p bal v ∧ c = 0) ∨
  (pOk p ppm ev m cnt bal ∧ enough (ppm * ev) m cnt.toNat p bal 1000000000000 = false ∧ v = 0 ∧ c = 6))
theorem pout_no {p ppm ev m cnt bal : Int} (h : ¬ pOk p ppm ev m cnt bal) : POut p ppm ev m cnt bal (.returned (.tuple #[.int .i64 0, .int .i64 1])) := ⟨0, 1, rfl, .inl ⟨h, rfl, rfl⟩⟩
theorem pout_over {p ppm ev m cnt bal : Int} (h : pOk p ppm ev m cnt bal) (he : enough (ppm * ev) m cnt.toNat p bal 1000000000000 = false) : POut p ppm ev m cnt bal (.returned (.tuple #[.int .i64 0, .int .i64 6])) := ⟨0, 6, rfl, .inr (.inr ⟨h, he, rfl, rfl⟩)⟩
theorem pout_ok {p ppm ev m cnt bal v : Int} (h : pOk p ppm ev m cnt bal) (hl : Least (ppm * ev) m cnt.toNat p bal v) : POut p ppm ev m cnt bal (.returned (.tuple #[.int .i64 v, .int .i64 0])) :=
 ⟨v, 0, rfl, .inr (.inl ⟨h, enough_mono h.1.rate h.1.1.1 h.1.1.2 hl.1.1 hl.1.2 hl.2.1, hl, rfl⟩)⟩

theorem clos_any (p ppm ev m bal pay : Int) (cnt : Nat) (a b c d : Nat) (w : World) (hS : Stp w) (h : Ok p ppm ev m) (hk : cnt ≤ 120) (hp0 : 0 ≤ pay) (hp1 : pay ≤ 1000000000000)
  (ha : Bk.Blk w a #[.int .i64 ppm, .int .i64 ev, .int .i64 m] 125) (hb : Bk.Blk w b #[.int .i64 p] 3) (hc : Bk.Blk w c #[.int .i64 cnt] 3) (hd : Bk.Blk w d #[.int .i64 bal] 3) :
  Calls Tryz.prog 106 #[.int .i64 pay, .pointer (some ⟨a, 0, none⟩), .pointer (some ⟨b, 0, none⟩), .pointer (some ⟨c, 0, none⟩), .pointer (some ⟨d, 0, none⟩)] w fun e w' => e = .returned (.bool (enough (ppm * ev) m cnt p bal pay)) ∧ Below w.heap.size w w' := by
 have ht := fun (W : World) (hS : Stp W) => trest_any p ppm ev m pay cnt W hS h hk hp0 hp1
 have b0 := Below.refl w.heap.size w
 repeat (rename Bk.Blk w _ _ _ => hq; (first | (have _k0 := (hq).c0; have _m0 := (hq).f0) | skip); (first | (have _k1 := (hq).c1; have _m1 := (hq).f1) | skip); (first | (have _k2 := (hq).c2; have _m2 := (hq).f2) | skip); (first | (have _k3 := (hq).c3; have _m3 := (hq).f3) | skip); have _z := (hq).lt; have hk := Bk.Kept.mk hq; clear hq)
 repeat (rename Bk.Kept (Bk.Blk w _ _ _) => hq; have hq' := hq.out; clear hq)
 cases hv : restA (ppm * ev) m pay cnt p with
 | none =>
  rw [hv] at ht
  have HT := Lib.hid ht
  have HE := Lib.hid (show enough (ppm * ev) m cnt p bal pay = false by unfold enough; rw [hv])
  clear ht hv h
  go_enter Tryz.func106, Tryz.ntmps106
  go_wp2_with fail
  refine (HT.out _ hS).mono ?_
  rintro e w1 ⟨rfl, hb1⟩
  have b1 : Below w.heap.size w w1 := bl2 hb1 Bk.be
  have z1 := b1.size
  repeat (rename Bk.Blk w _ _ _ => hq; (first | (have hq' := Bk.Blk.carry hq hb1 (by (repeat (first | with_reducible refine Bk.Blk.drew ?_ | with_reducible refine Bk.Blk.set_same ?_ | with_reducible refine Bk.Blk.set_ne ?_ (by omega) | with_reducible refine Bk.Blk.alloc ?_)); (with_reducible exact hq))) | (have hq' := Bk.Blk.later hb1 (Bk.Blk.set2 hq)) | skip); clear hq)
  try (have hn := Bk.nx ((w).heap.size) hb1)
  try (have hn := Bk.nx ((w).heap.size + 1) hb1)
  try (have hn := Bk.nx ((w).heap.size + 2) hb1)
  try (have hn := Bk.nx ((w).heap.size + 3) hb1)
  clear hb1
  repeat (rename World.cell? w _ = _ => hq; clear hq)
  repeat (rename World.frozen? w _ = _ => hq; clear hq)
  repeat (rename Bk.Blk w1 _ _ _ => hq; (first | (have _k0 := (hq).c0; have _m0 := (hq).f0) | skip); (first | (have _k1 := (hq).c1; have _m1 := (hq).f1) | skip); (first | (have _k2 := (hq).c2; have _m2 := (hq).f2) | skip); (first | (have _k3 := (hq).c3; have _m3 := (hq).f3) | skip); have _z := (hq).lt; have hk := Bk.Kept.mk hq; clear hq)
  repeat (rename Bk.Kept (Bk.Blk w1 _ _ _) => hq; have hq' := hq.out; clear hq)
  go_wp2_with fail
  go_ret
  rw [HE.out]
  exact ⟨rfl, Bk.be⟩
 | some n =>
  rw [hv] at ht
  have HT := Lib.hid ht
  have HE := Lib.hid (show enough (ppm * ev) m cnt p bal pay = decide (n ≤ bal) by unfold enough; rw [hv])
  clear ht hv h
  go_enter Tryz.func106, Tryz.ntmps106
  go_wp2_with fail
  refine (HT.out _ hS).mono ?_
  rintro e w1 ⟨rfl, hb1⟩
  have b1 : Below w.heap.size w w1 := bl2 hb1 Bk.be
  have z1 := b1.size
  repeat (rename Bk.Blk w _ _ _ => hq; (first | (have hq' := Bk.Blk.carry hq hb1 (by (repeat (first | with_reducible refine Bk.Blk.drew ?_ | with_reducible refine Bk.Blk.set_same ?_ | with_reducible refine Bk.Blk.set_ne ?_ (by omega) | with_reducible refine Bk.Blk.alloc ?_)); (with_reducible exact hq))) | (have hq' := Bk.Blk.later hb1 (Bk.Blk.set2 hq)) | skip); clear hq)
  try (have hn := Bk.nx ((w).heap.size) hb1)
  try (have hn := Bk.nx ((w).heap.size + 1) hb1)
  try (have hn := Bk.nx ((w).heap.size + 2) hb1)
  try (have hn := Bk.nx ((w).heap.size + 3) hb1)
  clear hb1
  repeat (rename World.cell? w _ = _ => hq; clear hq)
  repeat (rename World.frozen? w _ = _ => hq; clear hq)
  repeat (rename Bk.Blk w1 _ _ _ => hq; (first | (have _k0 := (hq).c0; have _m0 := (hq).f0) | skip); (first | (have _k1 := (hq).c1; have _m1 := (hq).f1) | skip); (first | (have _k2 := (hq).c2; have _m2 := (hq).f2) | skip); (first | (have _k3 := (hq).c3; have _m3 := (hq).f3) | skip); have _z := (hq).lt; have hk := Bk.Kept.mk hq; clear hq)
  repeat (rename Bk.Kept (Bk.Blk w1 _ _ _) => hq; have hq' := hq.out; clear hq)
  go_wp2_with fail
  go_ret
  rw [HE.out]
  exact ⟨rfl, Bk.be⟩

def RPLoop (w : World) (c m p bal : Int) (k : Nat) (g : Nat) (v14 v15 : Value) (wr : World) : Prop := ∃ lo hi : Int, g = (hi - lo).toNat ∧ v14 = .int .i64 lo ∧ v15 = .int .i64 hi ∧ PayRel c m k p bal lo hi ∧ hi ≤ 1000000000001 ∧ (∀ y, hi ≤ y → y ≤ 1000000000000 → enough c m k p bal y = true) ∧ w = wr
theorem rfind_least {c m p bal lo : Int} {k : Nat} (h : PayRel c m k p bal lo lo) (hh : ∀ y, lo ≤ y → y ≤ 1000000000000 → enough c m k p bal y = true) (h1 : lo ≤ 1000000000000) : Least c m k p bal lo :=
 ⟨⟨h.l0, h1⟩, hh lo (by omega) h1, h.below⟩
theorem rs_enough {p ppm ev m bal pay : Int} {cnt : Nat} (h : rOk p ppm ev m cnt pay) :
  enough (ppm * ev) m cnt p bal pay = (rsE p ppm ev m cnt pay == 0 && decide (rsV p ppm ev m cnt pay ≤ bal)) := by
 unfold rsE rsV enough
 rw [if_pos h, if_pos h, show ((cnt : Nat) : Int).toNat = cnt by omega]
 cases restA (ppm * ev) m pay cnt p with
 | none => rfl
 | some n => rfl

set_option maxHeartbeats 8000000 in
theorem rpay_ok (p ppm ev m bal : Int) (cnt : Nat) (w : World) (h : Ok p ppm ev m) (k1 : 1 ≤ cnt) (k2 : cnt ≤ 120) (hb0 : 0 ≤ bal) (hb1 : bal ≤ p) :
  Calls Tryz.prog 74 #[.int .i64 p, .int .i64 ppm, .int .i64 ev, .int .i64 m, .int .i64 cnt, .int .i64 bal] w fun e w' => POut p ppm ev m cnt bal e ∧ w = w' := by
 have H := Lib.hid h
 have HG := Lib.hid (fun W => rgd_yes p ppm ev m W h)
 have HY := Lib.hid (show pOk p ppm ev m cnt bal from ⟨h, ⟨by omega, by omega⟩, ⟨hb0, hb1⟩⟩)
 have HCN := Lib.hid (show ((cnt : Nat) : Int).toNat = cnt by omega)
 have hp1 := h.1.2
 have hc1 : (1 : Int) ≤ (cnt : Int) := by omega
 clear h
 go_enter Tryz.func74, Tryz.ntmps74
 go_wp2_with fail
 refine (HG.out _).mono ?_
 rintro e w' ⟨rfl, rfl⟩
 go_wp2_with fail
 go_loopg [14, 15] 1000000000001 (RPLoop w (ppm * ev) m p bal cnt)
 case atStart => exact ⟨0, 1000000000001, rfl, rfl, rfl, ⟨by omega, by omega, fun y a b => by omega⟩, by omega, fun y a b => by omega, rfl⟩
 case round =>
  obtain ⟨lo, hi, hg, rfl, rfl, hr, hhi, hen, rfl⟩ := hrel
  have HR := Lib.hid hr
  have HE := Lib.hid hen
  have HGK := Lib.hid hg
  have l0 := hr.l0
  have lh := hr.lh
  clear hr hen hg
  by_cases hlt : lo < hi
  ·have hmid : lo ≤ (lo + hi) / 2 ∧ (lo + hi) / 2 < hi ∧ (lo + hi) / 2 ≤ 1000000000000 ∧ 0 ≤ (lo + hi) / 2 := by omega
   have hR := fun W => rrest_any p ppm ev m cnt ((lo + hi) / 2) W
   unfold ROut at hR
   have hen := rs_enough (bal := bal) (show rOk p ppm ev m cnt ((lo + hi) / 2) from ⟨H.out, ⟨by omega, by omega⟩, ⟨hmid.2.2.2, hmid.2.2.1⟩⟩)
   generalize hE' : rsE p ppm ev m cnt ((lo + hi) / 2) = E at *
   generalize hV' : rsV p ppm ev m cnt ((lo + hi) / 2) = V at *
   clear hE' hV'
   obtain ⟨m1, m2, m3, m4⟩ := hmid
   have HRR := Lib.hid hR
   have HEN := Lib.hid hen
   clear hR hen
   have hs0 : 0 ≤ lo + hi := by omega
   by_cases hE : E = 0
   ·have hE1 : (E == 0) = true := beq_iff_eq.2 hE
    have HE1 := Lib.hid hE
    clear hE
    by_cases hV : V ≤ bal
    ·have HT := Lib.hid (show enough (ppm * ev) m cnt p bal ((lo + hi) / 2) = true by rw [HEN.out, HE1.out, decide_eq_true hV]; rfl)
     go_wp2_with fail
     refine (HRR.out _).mono ?_
     rintro e w' ⟨rfl, rfl⟩
     go_wp2_with fail
     go_roundg ((lo + hi) / 2 - lo).toNat
     case measure => have := HGK.out; omega
     case rel => exact ⟨lo, (lo + hi) / 2, rfl, rfl, rfl, HR.out.down m1, by omega, fun y y1 y2 => enough_mono H.out.rate H.out.1.1 H.out.1.2 m4 y1 HT.out, rfl⟩
    ·have hV2 : bal < V := by omega
     have HT := Lib.hid (show enough (ppm * ev) m cnt p bal ((lo + hi) / 2) = false by rw [HEN.out, decide_eq_false hV]; simp)
     clear hV
     go_wp2_with fail
     refine (HRR.out _).mono ?_
     rintro e w' ⟨rfl, rfl⟩
     go_wp2_with fail
     go_roundg (hi - ((lo + hi) / 2 + 1)).toNat
     case measure => have := HGK.out; omega
     case rel => exact ⟨(lo + hi) / 2 + 1, hi, rfl, rfl, rfl, HR.out.up H.out.rate H.out.1.1 H.out.1.2 m1 m2 HT.out, hhi, HE.out, rfl⟩
   ·have hE1 : (E == 0) = false := beq_eq_false_iff_ne.2 hE
    have HT := Lib.hid (show enough (ppm * ev) m cnt p bal ((lo + hi) / 2) = false by rw [HEN.out, hE1]; rfl)
    clear hE
    go_wp2_with fail
    refine (HRR.out _).mono ?_
    rintro e w' ⟨rfl, rfl⟩
    go_wp2_with fail
    go_roundg (hi - ((lo + hi) / 2 + 1)).toNat
    case measure => have := HGK.out; omega
    case rel => exact ⟨(lo + hi) / 2 + 1, hi, rfl, rfl, rfl, HR.out.up H.out.rate H.out.1.1 H.out.1.2 m1 m2 HT.out, hhi, HE.out, rfl⟩
  ·have hlh : lo = hi := by omega
   subst hlh
   by_cases hx : lo ≤ 1000000000000
   ·have HL := Lib.hid (rfind_least HR.out HE.out hx)
    go_wp2_with fail
    go_ret2
    exact ⟨pout_ok HY.out (by rw [HCN.out]; exact HL.out), rfl⟩
   ·have hx2 : 1000000000000 < lo := by omega
    have HN := Lib.hid (HR.out.below 1000000000000 (by omega) hx2)
    clear hx
    go_wp2_with fail
    go_ret2
    exact ⟨pout_over HY.out (by rw [HCN.out]; exact HN.out), rfl⟩

theorem rpay_any (p ppm ev m cnt bal : Int) (w : World) : Calls Tryz.prog 74 #[.int .i64 p, .int .i64 ppm, .int .i64 ev, .int .i64 m, .int .i64 cnt, .int .i64 bal] w fun e w' => POut p ppm ev m cnt bal e ∧ w = w' := by
 by_cases hy : pOk p ppm ev m cnt bal
 ·obtain ⟨h, ⟨g1, g2⟩, ⟨g3, g4⟩⟩ := hy
  have := rpay_ok p ppm ev m bal cnt.toNat w h (by omega) (by omega) g3 g4
  rw [show ((cnt.toNat : Nat) : Int) = cnt by omega] at this
  exact this
 ·have HN := Lib.hid hy
  unfold pOk at hy
  by_cases ho : Ok p ppm ev m
  ·have HA := Lib.hid (fun W => rgd_yes p ppm ev m W ho)
   by_cases h1 : cnt < 1
   ·clear hy ho
    go_enter Tryz.func74, Tryz.ntmps74
    go_wp2_with fail
    refine (HA.out _).mono ?_
    rintro e w' ⟨rfl, rfl⟩
    go_wp2_with fail
    go_ret2
    exact ⟨pout_no HN.out, rfl⟩
   ·have g1 : 1 ≤ cnt := by omega
    clear h1
    by_cases h2 : 120 < cnt
    ·clear hy ho
     go_enter Tryz.func74, Tryz.ntmps74
     go_wp2_with fail
     refine (HA.out _).mono ?_
     rintro e w' ⟨rfl, rfl⟩
     go_wp2_with fail
     go_ret2
     exact ⟨pout_no HN.out, rfl⟩
    ·have g2 : cnt ≤ 120 := by omega
     clear h2
     by_cases h3 : bal < 0
     ·clear hy ho
      go_enter Tryz.func74, Tryz.ntmps74
      go_wp2_with fail
      refine (HA.out _).mono ?_
      rintro e w' ⟨rfl, rfl⟩
      go_wp2_with fail
      go_ret2
      exact ⟨pout_no HN.out, rfl⟩
     ·have g3 : 0 ≤ bal := by omega
      have g4 : p < bal := by
       rcases Classical.em (p < bal) with h | h
       ·exact h
       ·exact absurd ⟨ho, ⟨g1, g2⟩, ⟨g3, by omega⟩⟩ hy
      clear h3 hy ho
      go_enter Tryz.func74, Tryz.ntmps74
      go_wp2_with fail
      refine (HA.out _).mono ?_
      rintro e w' ⟨rfl, rfl⟩
      go_wp2_with fail
      go_ret2
      exact ⟨pout_no HN.out, rfl⟩
  ·have HA := Lib.hid (fun W => rgd_no p ppm ev m W ho)
   clear hy ho
   go_enter Tryz.func74, Tryz.ntmps74
   go_wp2_with fail
   refine (HA.out _).mono ?_
   rintro e w' ⟨rfl, rfl⟩
   go_wp2_with fail
   go_ret2
   exact ⟨pout_no HN.out, rfl⟩

def PLoop (w : World) (ppm ev m p bal : Int) (k : Nat) (a b c d : Nat) (g : Nat) (v16 v17 : Value) (wr : World) : Prop := ∃ lo hi : Int, g = (hi - lo).toNat ∧ v16 = .int .i64 lo ∧ v17 = .int .i64 hi ∧ PayRel (ppm * ev) m k p bal lo hi ∧ hi ≤ 1000000000000 ∧ enough (ppm * ev) m k p bal hi = true ∧
 Bk.Blk wr a #[.int .i64 ppm, .int .i64 ev, .int .i64 m] 125 ∧ Bk.Blk wr b #[.int .i64 p] 3 ∧ Bk.Blk wr c #[.int .i64 k] 3 ∧ Bk.Blk wr d #[.int .i64 bal] 3 ∧ Below w.heap.size w wr

set_option maxHeartbeats 8000000 in
theorem pay_ok (p ppm ev m bal : Int) (cnt : Nat) (w : World) (hS : Stp w) (h : Ok p ppm ev m) (k1 : 1 ≤ cnt) (k2 : cnt ≤ 120) (hb0 : 0 ≤ bal) (hb1 : bal ≤ p) :
  Calls Tryz.prog 69 #[.int .i64 p, .int .i64 ppm, .int .i64 ev, .int .i64 m, .int .i64 cnt, .int .i64 bal] w fun e w' => POut p ppm ev m cnt bal e ∧ Below w.heap.size w w' := by
 have H := Lib.hid h
 have HA := Lib.hid (fun W => acc_yes p ppm ev m W h)
 have HY := Lib.hid (show pOk p ppm ev m cnt bal from ⟨h, ⟨by omega, by omega⟩, ⟨hb0, hb1⟩⟩)
 have HCN := Lib.hid (show ((cnt : Nat) : Int).toNat = cnt by omega)
 have hc1 : (1 : Int) ≤ (cnt : Int) := by omega
 have hp0 := h.1.1
 have hp1 := h.1.2
 have b0 := Below.refl w.heap.size w
 have HC := Lib.hid (fun (pay : Int) (a b c d : Nat) (W : World) (hS : Stp W) h3 h4 ha hb hc hd => clos_any p ppm ev m bal pay cnt a b c d W hS h k2 h3 h4 ha hb hc hd)
 clear h
 cases he : enough (ppm * ev) m cnt p bal 1000000000000 with
 | false =>
  have HE := Lib.hid he
  clear he
  go_enter Tryz.func69, Tryz.ntmps69
  go_wp2_with fail
  refine (HA.out _).mono ?_
  rintro e w1 ⟨rfl, hb1⟩
  have b1 : Below w.heap.size w w1 := bl2 hb1 Bk.be
  have z1 := b1.size
  repeat (rename Bk.Blk w _ _ _ => hq; (first | (have hq' := Bk.Blk.carry hq hb1 (by (repeat (first | with_reducible refine Bk.Blk.drew ?_ | with_reducible refine Bk.Blk.set_same ?_ | with_reducible refine Bk.Blk.set_ne ?_ (by omega) | with_reducible refine Bk.Blk.alloc ?_)); (with_reducible exact hq))) | (have hq' := Bk.Blk.later hb1 (Bk.Blk.set2 hq)) | skip); clear hq)
  try (have hn := Bk.nx ((w).heap.size) hb1)
  try (have hn := Bk.nx ((w).heap.size + 1) hb1)
  try (have hn := Bk.nx ((w).heap.size + 2) hb1)
  try (have hn := Bk.nx ((w).heap.size + 3) hb1)
  clear hb1
  repeat (rename World.cell? w _ = _ => hq; clear hq)
  repeat (rename World.frozen? w _ = _ => hq; clear hq)
  repeat (rename Bk.Blk w1 _ _ _ => hq; (first | (have _k0 := (hq).c0; have _m0 := (hq).f0) | skip); (first | (have _k1 := (hq).c1; have _m1 := (hq).f1) | skip); (first | (have _k2 := (hq).c2; have _m2 := (hq).f2) | skip); (first | (have _k3 := (hq).c3; have _m3 := (hq).f3) | skip); have _z := (hq).lt; have hk := Bk.Kept.mk hq; clear hq)
  repeat (rename Bk.Kept (Bk.Blk w1 _ _ _) => hq; have hq' := hq.out; clear hq)
  go_wp2_with fail
  have hcl := HC.out 1000000000000 (w.heap.size + 3) w.heap.size (w.heap.size + 1) (w.heap.size + 2) w1 (hS.of b1) (by omega) (by omega) (by assumption) (by assumption) (by assumption) (by assumption)
  rw [HE.out] at hcl
  have HCL := Lib.hid hcl
  clear hcl
  refine (HCL.out).mono ?_
  rintro e w2 ⟨rfl, hb2⟩
  have b2 : Below w.heap.size w w2 := bl2 hb2 Bk.be
  have z2 := b2.size
  repeat (rename Bk.Blk w1 _ _ _ => hq; (first | (have hq' := Bk.Blk.carry hq hb2 (by (repeat (first | with_reducible refine Bk.Blk.drew ?_ | with_reducible refine Bk.Blk.set_same ?_ | with_reducible refine Bk.Blk.set_ne ?_ (by omega) | with_reducible refine Bk.Blk.alloc ?_)); (with_reducible exact hq))) | (have hq' := Bk.Blk.later hb2 (Bk.Blk.set2 hq)) | skip); clear hq)
  try (have hn := Bk.nx ((w1).heap.size) hb2)
  try (have hn := Bk.nx ((w1).heap.size + 1) hb2)
  try (have hn := Bk.nx ((w1).heap.size + 2) hb2)
  try (have hn := Bk.nx ((w1).heap.size + 3) hb2)
  clear hb2
  repeat (rename World.cell? w1 _ = _ => hq; clear hq)
  repeat (rename World.frozen? w1 _ = _ => hq; clear hq)
  repeat (rename Bk.Blk w2 _ _ _ => hq; (first | (have _k0 := (hq).c0; have _m0 := (hq).f0) | skip); (first | (have _k1 := (hq).c1; have _m1 := (hq).f1) | skip); (first | (have _k2 := (hq).c2; have _m2 := (hq).f2) | skip); (first | (have _k3 := (hq).c3; have _m3 := (hq).f3) | skip); have _z := (hq).lt; have hk := Bk.Kept.mk hq; clear hq)
  repeat (rename Bk.Kept (Bk.Blk w2 _ _ _) => hq; have hq' := hq.out; clear hq)
  go_wp2_with fail
  go_ret2
  exact ⟨pout_over HY.out (by rw [HCN.out]; exact HE.out), Bk.be⟩
 | true =>
  have HE := Lib.hid he
  clear he
  go_enter Tryz.func69, Tryz.ntmps69
  go_wp2_with fail
  refine (HA.out _).mono ?_
  rintro e w1 ⟨rfl, hb1⟩
  have b1 : Below w.heap.size w w1 := bl2 hb1 Bk.be
  have z1 := b1.size
  repeat (rename Bk.Blk w _ _ _ => hq; (first | (have hq' := Bk.Blk.carry hq hb1 (by (repeat (first | with_reducible refine Bk.Blk.drew ?_ | with_reducible refine Bk.Blk.set_same ?_ | with_reducible refine Bk.Blk.set_ne ?_ (by omega) | with_reducible refine Bk.Blk.alloc ?_)); (with_reducible exact hq))) | (have hq' := Bk.Blk.later hb1 (Bk.Blk.set2 hq)) | skip); clear hq)
  try (have hn := Bk.nx ((w).heap.size) hb1)
  try (have hn := Bk.nx ((w).heap.size + 1) hb1)
  try (have hn := Bk.nx ((w).heap.size + 2) hb1)
  try (have hn := Bk.nx ((w).heap.size + 3) hb1)
  clear hb1
  repeat (rename World.cell? w _ = _ => hq; clear hq)
  repeat (rename World.frozen? w _ = _ => hq; clear hq)
  repeat (rename Bk.Blk w1 _ _ _ => hq; (first | (have _k0 := (hq).c0; have _m0 := (hq).f0) | skip); (first | (have _k1 := (hq).c1; have _m1 := (hq).f1) | skip); (first | (have _k2 := (hq).c2; have _m2 := (hq).f2) | skip); (first | (have _k3 := (hq).c3; have _m3 := (hq).f3) | skip); have _z := (hq).lt; have hk := Bk.Kept.mk hq; clear hq)
  repeat (rename Bk.Kept (Bk.Blk w1 _ _ _) => hq; have hq' := hq.out; clear hq)
  go_wp2_with fail
  have hcl := HC.out 1000000000000 (w.heap.size + 3) w.heap.size (w.heap.size + 1) (w.heap.size + 2) w1 (hS.of b1) (by omega) (by omega) (by assumption) (by assumption) (by assumption) (by assumption)
  rw [HE.out] at hcl
  have HCL := Lib.hid hcl
  clear hcl
  refine (HCL.out).mono ?_
  rintro e w2 ⟨rfl, hb2⟩
  have b2 : Below w.heap.size w w2 := bl2 hb2 Bk.be
  have z2 := b2.size
  repeat (rename Bk.Blk w1 _ _ _ => hq; (first | (have hq' := Bk.Blk.carry hq hb2 (by (repeat (first | with_reducible refine Bk.Blk.drew ?_ | with_reducible refine Bk.Blk.set_same ?_ | with_reducible refine Bk.Blk.set_ne ?_ (by omega) | with_reducible refine Bk.Blk.alloc ?_)); (with_reducible exact hq))) | (have hq' := Bk.Blk.later hb2 (Bk.Blk.set2 hq)) | skip); clear hq)
  try (have hn := Bk.nx ((w1).heap.size) hb2)
  try (have hn := Bk.nx ((w1).heap.size + 1) hb2)
  try (have hn := Bk.nx ((w1).heap.size + 2) hb2)
  try (have hn := Bk.nx ((w1).heap.size + 3) hb2)
  clear hb2
  repeat (rename World.cell? w1 _ = _ => hq; clear hq)
  repeat (rename World.frozen? w1 _ = _ => hq; clear hq)
  repeat (rename Bk.Blk w2 _ _ _ => hq; (first | (have _k0 := (hq).c0; have _m0 := (hq).f0) | skip); (first | (have _k1 := (hq).c1; have _m1 := (hq).f1) | skip); (first | (have _k2 := (hq).c2; have _m2 := (hq).f2) | skip); (first | (have _k3 := (hq).c3; have _m3 := (hq).f3) | skip); have _z := (hq).lt; have hk := Bk.Kept.mk hq; clear hq)
  repeat (rename Bk.Kept (Bk.Blk w2 _ _ _) => hq; have hq' := hq.out; clear hq)
  go_wp2_with fail
  go_loopg [16, 17] 1000000000000 (PLoop w ppm ev m p bal cnt (w.heap.size + 3) w.heap.size (w.heap.size + 1) (w.heap.size + 2))
  case atStart => exact ⟨0, 1000000000000, rfl, rfl, rfl, ⟨by omega, by omega, fun y a b => by omega⟩, by omega, HE.out, by assumption, by assumption, by assumption, by assumption, Bk.be⟩
  case round =>
   obtain ⟨lo, hi, hg, rfl, rfl, hr, hhi, hen, q14, q6, q10, q11, bw⟩ := hrel
   have HR := Lib.hid hr
   have HEN := Lib.hid hen
   have HGK := Lib.hid hg
   have l0 := hr.l0
   have lh := hr.lh
   clear hr hen hg
   by_cases hlt : lo < hi
   ·have hmid : lo ≤ (lo + hi) / 2 ∧ (lo + hi) / 2 < hi ∧ (lo + hi) / 2 ≤ 1000000000000 ∧ 0 ≤ (lo + hi) / 2 := by omega
    obtain ⟨m1, m2, m3, m4⟩ := hmid
    have hs0 : 0 ≤ lo + hi := by omega
    have hcl := HC.out ((lo + hi) / 2) (w.heap.size + 3) w.heap.size (w.heap.size + 1) (w.heap.size + 2) wr (hS.of bw) m4 m3 q14 q6 q10 q11
    cases he : enough (ppm * ev) m cnt p bal ((lo + hi) / 2) with
    | false =>
     rw [he] at hcl
     have HCL := Lib.hid hcl
     have HT := Lib.hid he
     clear hcl he
     go_wp2_with fail
     refine (HCL.out).mono ?_
     rintro e w3 ⟨rfl, hb3⟩
     have b3 : Below w.heap.size w w3 := bl2 hb3 Bk.be
     have z3 := b3.size
     repeat (rename Bk.Blk wr _ _ _ => hq; (first | (have hq' := Bk.Blk.carry hq hb3 (by (repeat (first | with_reducible refine Bk.Blk.drew ?_ | with_reducible refine Bk.Blk.set_same ?_ | with_reducible refine Bk.Blk.set_ne ?_ (by omega) | with_reducible refine Bk.Blk.alloc ?_)); (with_reducible exact hq))) | (have hq' := Bk.Blk.later hb3 (Bk.Blk.set2 hq)) | skip); clear hq)
     try (have hn := Bk.nx ((wr).heap.size) hb3)
     try (have hn := Bk.nx ((wr).heap.size + 1) hb3)
     try (have hn := Bk.nx ((wr).heap.size + 2) hb3)
     try (have hn := Bk.nx ((wr).heap.size + 3) hb3)
     clear hb3
     repeat (rename World.cell? wr _ = _ => hq; clear hq)
     repeat (rename World.frozen? wr _ = _ => hq; clear hq)
     repeat (rename Bk.Blk w3 _ _ _ => hq; (first | (have _k0 := (hq).c0; have _m0 := (hq).f0) | skip); (first | (have _k1 := (hq).c1; have _m1 := (hq).f1) | skip); (first | (have _k2 := (hq).c2; have _m2 := (hq).f2) | skip); (first | (have _k3 := (hq).c3; have _m3 := (hq).f3) | skip); have _z := (hq).lt; have hk := Bk.Kept.mk hq; clear hq)
     repeat (rename Bk.Kept (Bk.Blk w3 _ _ _) => hq; have hq' := hq.out; clear hq)
     go_wp2_with fail
     go_roundg (hi - ((lo + hi) / 2 + 1)).toNat
     case measure => have := HGK.out; omega
     case rel => exact ⟨(lo + hi) / 2 + 1, hi, rfl, rfl, rfl, HR.out.up H.out.rate H.out.1.1 H.out.1.2 m1 m2 HT.out, hhi, HEN.out, by assumption, by assumption, by assumption, by assumption, Bk.be⟩
    | true =>
     rw [he] at hcl
     have HCL := Lib.hid hcl
     have HT := Lib.hid he
     clear hcl he
     go_wp2_with fail
     refine (HCL.out).mono ?_
     rintro e w3 ⟨rfl, hb3⟩
     have b3 : Below w.heap.size w w3 := bl2 hb3 Bk.be
     have z3 := b3.size
     repeat (rename Bk.Blk wr _ _ _ => hq; (first | (have hq' := Bk.Blk.carry hq hb3 (by (repeat (first | with_reducible refine Bk.Blk.drew ?_ | with_reducible refine Bk.Blk.set_same ?_ | with_reducible refine Bk.Blk.set_ne ?_ (by omega) | with_reducible refine Bk.Blk.alloc ?_)); (with_reducible exact hq))) | (have hq' := Bk.Blk.later hb3 (Bk.Blk.set2 hq)) | skip); clear hq)
     try (have hn := Bk.nx ((wr).heap.size) hb3)
     try (have hn := Bk.nx ((wr).heap.size + 1) hb3)
     try (have hn := Bk.nx ((wr).heap.size + 2) hb3)
     try (have hn := Bk.nx ((wr).heap.size + 3) hb3)
     clear hb3
     repeat (rename World.cell? wr _ = _ => hq; clear hq)
     repeat (rename World.frozen? wr _ = _ => hq; clear hq)
     repeat (rename Bk.Blk w3 _ _ _ => hq; (first | (have _k0 := (hq).c0; have _m0 := (hq).f0) | skip); (first | (have _k1 := (hq).c1; have _m1 := (hq).f1) | skip); (first | (have _k2 := (hq).c2; have _m2 := (hq).f2) | skip); (first | (have _k3 := (hq).c3; have _m3 := (hq).f3) | skip); have _z := (hq).lt; have hk := Bk.Kept.mk hq; clear hq)
     repeat (rename Bk.Kept (Bk.Blk w3 _ _ _) => hq; have hq' := hq.out; clear hq)
     go_wp2_with fail
     go_roundg ((lo + hi) / 2 - lo).toNat
     case measure => have := HGK.out; omega
     case rel => exact ⟨lo, (lo + hi) / 2, rfl, rfl, rfl, HR.out.down m1, by omega, HT.out, by assumption, by assumption, by assumption, by assumption, Bk.be⟩
   ·have hlh : lo = hi := by omega
    subst hlh
    have HL := Lib.hid (show Least (ppm * ev) m cnt p bal lo from ⟨⟨l0, hhi⟩, HEN.out, HR.out.below⟩)
    go_wp2_with fail
    go_ret2
    exact ⟨pout_ok HY.out (by rw [HCN.out]; exact HL.out), Bk.be⟩

set_option maxHeartbeats 4000000 in
theorem pay_any (p ppm ev m cnt bal : Int) (w : World) (hS : Stp w) : Calls Tryz.prog 69 #[.int .i64 p, .int .i64 ppm, .int .i64 ev, .int .i64 m, .int .i64 cnt, .int .i64 bal] w fun e w' => POut p ppm ev m cnt bal e ∧ Below w.heap.size w w' := by
 by_cases hy : pOk p ppm ev m cnt bal
 ·obtain ⟨h, ⟨g1, g2⟩, ⟨g3, g4⟩⟩ := hy
  have := pay_ok p ppm ev m bal cnt.toNat w hS h (by omega) (by omega) g3 g4
  rw [show ((cnt.toNat : Nat) : Int) = cnt by omega] at this
  exact this
 ·have HN := Lib.hid hy
  have b0 := Below.refl w.heap.size w
  unfold pOk at hy
  by_cases ho : Ok p ppm ev m
  ·have HA := Lib.hid (fun W => acc_yes p ppm ev m W ho)
   by_cases h1 : cnt < 1
   ·clear hy ho
    go_enter Tryz.func69, Tryz.ntmps69
    go_wp2_with fail
    refine (HA.out _).mono ?_
    rintro e w1 ⟨rfl, hb1⟩
    have b1 : Below w.heap.size w w1 := bl2 hb1 Bk.be
    have z1 := b1.size
    repeat (rename Bk.Blk w _ _ _ => hq; (first | (have hq' := Bk.Blk.carry hq hb1 (by (repeat (first | with_reducible refine Bk.Blk.drew ?_ | with_reducible refine Bk.Blk.set_same ?_ | with_reducible refine Bk.Blk.set_ne ?_ (by omega) | with_reducible refine Bk.Blk.alloc ?_)); (with_reducible exact hq))) | (have hq' := Bk.Blk.later hb1 (Bk.Blk.set2 hq)) | skip); clear hq)
    try (have hn := Bk.nx ((w).heap.size) hb1)
    try (have hn := Bk.nx ((w).heap.size + 1) hb1)
    try (have hn := Bk.nx ((w).heap.size + 2) hb1)
    try (have hn := Bk.nx ((w).heap.size + 3) hb1)
    clear hb1
    repeat (rename World.cell? w _ = _ => hq; clear hq)
    repeat (rename World.frozen? w _ = _ => hq; clear hq)
    repeat (rename Bk.Blk w1 _ _ _ => hq; (first | (have _k0 := (hq).c0; have _m0 := (hq).f0) | skip); (first | (have _k1 := (hq).c1; have _m1 := (hq).f1) | skip); (first | (have _k2 := (hq).c2; have _m2 := (hq).f2) | skip); (first | (have _k3 := (hq).c3; have _m3 := (hq).f3) | skip); have _z := (hq).lt; have hk := Bk.Kept.mk hq; clear hq)
    repeat (rename Bk.Kept (Bk.Blk w1 _ _ _) => hq; have hq' := hq.out; clear hq)
    go_wp2_with fail
    go_ret2
    exact ⟨pout_no HN.out, Bk.be⟩
   ·have g1 : 1 ≤ cnt := by omega
    clear h1
    by_cases h2 : 120 < cnt
    ·clear hy ho
     go_enter Tryz.func69, Tryz.ntmps69
     go_wp2_with fail
     refine (HA.out _).mono ?_
     rintro e w1 ⟨rfl, hb1⟩
     have b1 : Below w.heap.size w w1 := bl2 hb1 Bk.be
     have z1 := b1.size
     repeat (rename Bk.Blk w _ _ _ => hq; (first | (have hq' := Bk.Blk.carry hq hb1 (by (repeat (first | with_reducible refine Bk.Blk.drew ?_ | with_reducible refine Bk.Blk.set_same ?_ | with_reducible refine Bk.Blk.set_ne ?_ (by omega) | with_reducible refine Bk.Blk.alloc ?_)); (with_reducible exact hq))) | (have hq' := Bk.Blk.later hb1 (Bk.Blk.set2 hq)) | skip); clear hq)
     try (have hn := Bk.nx ((w).heap.size) hb1)
     try (have hn := Bk.nx ((w).heap.size + 1) hb1)
     try (have hn := Bk.nx ((w).heap.size + 2) hb1)
     try (have hn := Bk.nx ((w).heap.size + 3) hb1)
     clear hb1
     repeat (rename World.cell? w _ = _ => hq; clear hq)
     repeat (rename World.frozen? w _ = _ => hq; clear hq)
     repeat (rename Bk.Blk w1 _ _ _ => hq; (first | (have _k0 := (hq).c0; have _m0 := (hq).f0) | skip); (first | (have _k1 := (hq).c1; have _m1 := (hq).f1) | skip); (first | (have _k2 := (hq).c2; have _m2 := (hq).f2) | skip); (first | (have _k3 := (hq).c3; have _m3 := (hq).f3) | skip); have _z := (hq).lt; have hk := Bk.Kept.mk hq; clear hq)
     repeat (rename Bk.Kept (Bk.Blk w1 _ _ _) => hq; have hq' := hq.out; clear hq)
     go_wp2_with fail
     go_ret2
     exact ⟨pout_no HN.out, Bk.be⟩
    ·have g2 : cnt ≤ 120 := by omega
     clear h2
     by_cases h3 : bal < 0
     ·clear hy ho
      go_enter Tryz.func69, Tryz.ntmps69
      go_wp2_with fail
      refine (HA.out _).mono ?_
      rintro e w1 ⟨rfl, hb1⟩
      have b1 : Below w.heap.size w w1 := bl2 hb1 Bk.be
      have z1 := b1.size
      repeat (rename Bk.Blk w _ _ _ => hq; (first | (have hq' := Bk.Blk.carry hq hb1 (by (repeat (first | with_reducible refine Bk.Blk.drew ?_ | with_reducible refine Bk.Blk.set_same ?_ | with_reducible refine Bk.Blk.set_ne ?_ (by omega) | with_reducible refine Bk.Blk.alloc ?_)); (with_reducible exact hq))) | (have hq' := Bk.Blk.later hb1 (Bk.Blk.set2 hq)) | skip); clear hq)
      try (have hn := Bk.nx ((w).heap.size) hb1)
      try (have hn := Bk.nx ((w).heap.size + 1) hb1)
      try (have hn := Bk.nx ((w).heap.size + 2) hb1)
      try (have hn := Bk.nx ((w).heap.size + 3) hb1)
      clear hb1
      repeat (rename World.cell? w _ = _ => hq; clear hq)
      repeat (rename World.frozen? w _ = _ => hq; clear hq)
      repeat (rename Bk.Blk w1 _ _ _ => hq; (first | (have _k0 := (hq).c0; have _m0 := (hq).f0) | skip); (first | (have _k1 := (hq).c1; have _m1 := (hq).f1) | skip); (first | (have _k2 := (hq).c2; have _m2 := (hq).f2) | skip); (first | (have _k3 := (hq).c3; have _m3 := (hq).f3) | skip); have _z := (hq).lt; have hk := Bk.Kept.mk hq; clear hq)
      repeat (rename Bk.Kept (Bk.Blk w1 _ _ _) => hq; have hq' := hq.out; clear hq)
      go_wp2_with fail
      go_ret2
      exact ⟨pout_no HN.out, Bk.be⟩
     ·have g3 : 0 ≤ bal := by omega
      have g4 : p < bal := by
       rcases Classical.em (p < bal) with h | h
       ·exact h
       ·exact absurd ⟨ho, ⟨g1, g2⟩, ⟨g3, by omega⟩⟩ hy
      clear h3 hy ho
      go_enter Tryz.func69, Tryz.ntmps69
      go_wp2_with fail
      refine (HA.out _).mono ?_
      rintro e w1 ⟨rfl, hb1⟩
      have b1 : Below w.heap.size w w1 := bl2 hb1 Bk.be
      have z1 := b1.size
      repeat (rename Bk.Blk w _ _ _ => hq; (first | (have hq' := Bk.Blk.carry hq hb1 (by (repeat (first | with_reducible refine Bk.Blk.drew ?_ | with_reducible refine Bk.Blk.set_same ?_ | with_reducible refine Bk.Blk.set_ne ?_ (by omega) | with_reducible refine Bk.Blk.alloc ?_)); (with_reducible exact hq))) | (have hq' := Bk.Blk.later hb1 (Bk.Blk.set2 hq)) | skip); clear hq)
      try (have hn := Bk.nx ((w).heap.size) hb1)
      try (have hn := Bk.nx ((w).heap.size + 1) hb1)
      try (have hn := Bk.nx ((w).heap.size + 2) hb1)
      try (have hn := Bk.nx ((w).heap.size + 3) hb1)
      clear hb1
      repeat (rename World.cell? w _ = _ => hq; clear hq)
      repeat (rename World.frozen? w _ = _ => hq; clear hq)
      repeat (rename Bk.Blk w1 _ _ _ => hq; (first | (have _k0 := (hq).c0; have _m0 := (hq).f0) | skip); (first | (have _k1 := (hq).c1; have _m1 := (hq).f1) | skip); (first | (have _k2 := (hq).c2; have _m2 := (hq).f2) | skip); (first | (have _k3 := (hq).c3; have _m3 := (hq).f3) | skip); have _z := (hq).lt; have hk := Bk.Kept.mk hq; clear hq)
      repeat (rename Bk.Kept (Bk.Blk w1 _ _ _) => hq; have hq' := hq.out; clear hq)
      go_wp2_with fail
      go_ret2
      exact ⟨pout_no HN.out, Bk.be⟩
  ·have HA := Lib.hid (fun W => acc_no p ppm ev m W ho)
   clear hy ho
   go_enter Tryz.func69, Tryz.ntmps69
   go_wp2_with fail
   refine (HA.out _).mono ?_
   rintro e w1 ⟨rfl, hb1⟩
   have b1 : Below w.heap.size w w1 := bl2 hb1 Bk.be
   have z1 := b1.size
   repeat (rename Bk.Blk w _ _ _ => hq; (first | (have hq' := Bk.Blk.carry hq hb1 (by (repeat (first | with_reducible refine Bk.Blk.drew ?_ | with_reducible refine Bk.Blk.set_same ?_ | with_reducible refine Bk.Blk.set_ne ?_ (by omega) | with_reducible refine Bk.Blk.alloc ?_)); (with_reducible exact hq))) | (have hq' := Bk.Blk.later hb1 (Bk.Blk.set2 hq)) | skip); clear hq)
   try (have hn := Bk.nx ((w).heap.size) hb1)
   try (have hn := Bk.nx ((w).heap.size + 1) hb1)
   try (have hn := Bk.nx ((w).heap.size + 2) hb1)
   try (have hn := Bk.nx ((w).heap.size + 3) hb1)
   clear hb1
   repeat (rename World.cell? w _ = _ => hq; clear hq)
   repeat (rename World.frozen? w _ = _ => hq; clear hq)
   repeat (rename Bk.Blk w1 _ _ _ => hq; (first | (have _k0 := (hq).c0; have _m0 := (hq).f0) | skip); (first | (have _k1 := (hq).c1; have _m1 := (hq).f1) | skip); (first | (have _k2 := (hq).c2; have _m2 := (hq).f2) | skip); (first | (have _k3 := (hq).c3; have _m3 := (hq).f3) | skip); have _z := (hq).lt; have hk := Bk.Kept.mk hq; clear hq)
   repeat (rename Bk.Kept (Bk.Blk w1 _ _ _) => hq; have hq' := hq.out; clear hq)
   go_wp2_with fail
   go_ret2
   exact ⟨pout_no HN.out, Bk.be⟩
end Go.Proofs.YtaanicginfjgdaaGreatDoor.An
