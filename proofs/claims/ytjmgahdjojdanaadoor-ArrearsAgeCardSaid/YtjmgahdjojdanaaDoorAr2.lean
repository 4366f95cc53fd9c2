/-
  Arrears: Penalty of the program and of the reference.
-/
import Derived.Test.YtjmgahdjojdanaaDoorAr1
import Derived.Test.YtjmgahdjojdanaaDoorAmc
import Derived.Test.YtjmgahdjojdanaaDoorDct
import Derived.Test.YtjmgahdjojdanaaDoorRf
import Derived.Test.YtjmgahdjojdanaaDoorLr4
namespace Go.Proofs.YtjmgahdjojdanaaDoor.Ln
open Go.RowKit
open Go.Proofs.YtjmgahdjojdanaaDoor
open Go.Proofs.YtjmgahdjojdanaaDoor.Wm Go.Proofs.YtjmgahdjojdanaaDoor.Wt
set_option linter.unusedSimpArgs false

def PenP (l : Lo) (a b : Int) (w : World) (e : Ending) (w' : World) : Prop := e = .returned (.tuple #[.agg #[.int .i64 (hi (penV l a b)), .int .u64 (lo (penV l a b))], .int .i64 (penE l a b)]) ∧ Below w.heap.size w w'
theorem aday_at {n : Int} {v : Bool} (h : dayB n = v) (w : World) : Calls Tryd.prog 29 #[.int .i64 n] w fun e w' => e = .returned (.bool v) ∧ w = w' := by
  subst h
  exact aday_any n w
theorem rday_at {n : Int} {v : Bool} (h : dayB n = v) (w : World) : Calls Tryd.prog 35 #[.int .i64 n] w fun e w' => e = .returned (.bool v) ∧ w = w' := by
  subst h
  exact rvalid_any n w
theorem scale_in {x n p : Int} (hx : I128 x) (hn : I64 n) (hp : x * n = p) (h : I128 p) (w : World) :
    Calls Tryd.prog 30 #[.agg #[.int .i64 (hi x), .int .u64 (lo x)], .int .i64 n] w fun e w' => e = .returned (.tuple #[.agg #[.int .i64 (hi p), .int .u64 (lo p)], .int .i64 0]) ∧ Below w.heap.size w w' := by
  have hc := scale_any x n w hx hn
  rw [hp, fit_in h, ovf_in h] at hc
  exact hc
theorem rscale_in {x n p : Int} (hx : I128 x) (hn : I64 n) (hp : x * n = p) (h : I128 p) (w : World) :
    Calls Tryd.prog 36 #[.agg #[.int .i64 (hi x), .int .u64 (lo x)], .int .i64 n] w fun e w' => e = .returned (.tuple #[.agg #[.int .i64 (hi p), .int .u64 (lo p)], .int .i64 0]) ∧ Below w.heap.size w w' := by
  have hc := rscale_any x n w hx hn
  rw [hp, fit_in h, ovf_in h] at hc
  exact hc
theorem add_in {x y s : Int} (hx : I128 x) (hy : I128 y) (hs : x + y = s) (h : I128 s) (w : World) :
    Calls Tryd.prog 33 #[.agg #[.int .i64 (hi x), .int .u64 (lo x)], .agg #[.int .i64 (hi y), .int .u64 (lo y)]] w fun e w' => e = .returned (.tuple #[.agg #[.int .i64 (hi s), .int .u64 (lo s)], .int .i64 0]) ∧ Below w.heap.size w w' :=
  (add_any x y w hx hy).mono fun _ _ h' => by
    rw [hs] at h'
    unfold WSum at h'
    rw [fit_in h, ovf_in h] at h'
    exact h'
theorem radd_at {x y s : Int} (hx : I128 x) (hy : I128 y) (hs : x + y = s) (h : I128 s) (w : World) :
    Calls Tryd.prog 22 #[.agg #[.int .i64 (hi x), .int .u64 (lo x)], .agg #[.int .i64 (hi y), .int .u64 (lo y)]] w fun e w' => e = .returned (.tuple #[.agg #[.int .i64 (hi s), .int .u64 (lo s)], .int .i64 0]) ∧ Below w.heap.size w w' := radd_in x y s w hx hy hs h
/-- The numbers of a day fit. -/
structure PenD (l : Lo) (d : Int) : Prop where
  a : I64 (ovL l d)
  b : I64 l.tm.pen
  m : I128 (ovL l d * l.tm.pen)
  v : I64 (Cal.wei 3 d)
  x : I128 (Ln.penT l d)
theorem Ok.penD {l : Lo} (h : Ok l) (d : Int) : PenD l d := by
  have h1 := (h.ov d).2
  have h2 := rateB_iff.1 h.rp
  have h3 := wei_bd d
  have h4 := h.penT d
  have a1 : 0 ≤ ovL l d * l.tm.pen := Int.mul_nonneg h1.1 h2.1
  have a2 : ovL l d * l.tm.pen ≤ 240000000000000 * 1000000 := Int.mul_le_mul h1.2 h2.2 h2.1 (by omega)
  exact ⟨by unfold I64; omega, by unfold I64; omega, by unfold I128; omega, by unfold I64; omega, by unfold I128; omega⟩
theorem Ok.penI {l : Lo} (h : Ok l) (a : Int) {n : Nat} (hn : n ≤ 4000) : I128 (Ln.penS l a n) := by
  have := h.penS a n
  unfold I128
  omega
/-- Where the loop of Penalty stands. -/
def penR (w : World) (l : Lo) (da ca : Option Addr) (dk ck : Nat) (a b : Int) (g8 : Nat) (g : Nat) (s9 : Value) (W : World) : Prop := ∃ k : Nat, k + g = (b - a).toNat ∧ s9 = .int .i64 (a + k) ∧ Bk.Blk W w.heap.size #[.int .i64 (l).id, .int .i64 (l).ac, .int .i64 (l).st, .int .i64 (l).pp, .int .i64 (l).pi, .int .i64 (l).fee, .int .i64 (l).pen, .int .i64 (l).chg, .int .i64 (l).prov, .int .i64 (l).loss, .int .i64 (l).rcv, .int .i64 ((l).tm).me, .int .i64 ((l).tm).pr, .int .i64 ((l).tm).ppm, .int .i64 ((l).tm).stt, .int .i64 ((l).tm).ev, .int .i64 ((l).tm).ct, .int .i64 ((l).tm).ba, .int .i64 ((l).tm).mo, .int .i64 ((l).tm).pen, .int .i64 ((l).tm).fe, .string ((l).tm).cal, .string ((l).tm).cur, .slice da (l).ds.length dk, .slice ca (l).cs.length ck] 27 ∧
    Bk.Blk W (w.heap.size + 1) #[.int .i64 0, .int .u64 0] 36 ∧ Bk.Blk W g8 #[.int .i64 (hi (Ln.penS l a k)), .int .u64 (lo (Ln.penS l a k))] 36 ∧ Below w.heap.size w W

set_option maxRecDepth 100000 in
set_option maxHeartbeats 16000000 in
theorem pen_any (l : Lo) (da ca : Option Addr) (dk ck : Nat) (a b : Int) (w : World) (h : DuesIn w da l.ds) :
    Calls Tryd.prog 17 #[(.agg #[.int .i64 (l).id, .int .i64 (l).ac, .int .i64 (l).st, .int .i64 (l).pp, .int .i64 (l).pi, .int .i64 (l).fee, .int .i64 (l).pen, .int .i64 (l).chg, .int .i64 (l).prov, .int .i64 (l).loss, .int .i64 (l).rcv, .int .i64 ((l).tm).me, .int .i64 ((l).tm).pr, .int .i64 ((l).tm).ppm, .int .i64 ((l).tm).stt, .int .i64 ((l).tm).ev, .int .i64 ((l).tm).ct, .int .i64 ((l).tm).ba, .int .i64 ((l).tm).mo, .int .i64 ((l).tm).pen, .int .i64 ((l).tm).fe, .string ((l).tm).cal, .string ((l).tm).cur, .slice da (l).ds.length dk, .slice ca (l).cs.length ck]), .int .i64 a, .int .i64 b] w (PenP l a b w) := by
  have hck := fun (W : World) (hW : Below w.heap.size w W) => check_any l da ca dk ck W (h.later hW)
  have HOV := Lib.hid (fun (d : Int) (W : World) (hW : Below w.heap.size w W) => od_any l da ca dk ck d W (h.later hW))
  have c0 : Below w.heap.size w ((w.alloc (.cells #[.int .i64 (l).id, .int .i64 (l).ac, .int .i64 (l).st, .int .i64 (l).pp, .int .i64 (l).pi, .int .i64 (l).fee, .int .i64 (l).pen, .int .i64 (l).chg, .int .i64 (l).prov, .int .i64 (l).loss, .int .i64 (l).rcv, .int .i64 ((l).tm).me, .int .i64 ((l).tm).pr, .int .i64 ((l).tm).ppm, .int .i64 ((l).tm).stt, .int .i64 ((l).tm).ev, .int .i64 ((l).tm).ct, .int .i64 ((l).tm).ba, .int .i64 ((l).tm).mo, .int .i64 ((l).tm).pen, .int .i64 ((l).tm).fe, .string ((l).tm).cal, .string ((l).tm).cur, .slice da (l).ds.length dk, .slice ca (l).cs.length ck] 27)).alloc (.cells #[.int .i64 0, .int .u64 0] 36)) := ((Below.refl _ _).alloc (Nat.le_refl _) _).alloc (by simp) _
  have k0 : Bk.Blk ((w.alloc (.cells #[.int .i64 (l).id, .int .i64 (l).ac, .int .i64 (l).st, .int .i64 (l).pp, .int .i64 (l).pi, .int .i64 (l).fee, .int .i64 (l).pen, .int .i64 (l).chg, .int .i64 (l).prov, .int .i64 (l).loss, .int .i64 (l).rcv, .int .i64 ((l).tm).me, .int .i64 ((l).tm).pr, .int .i64 ((l).tm).ppm, .int .i64 ((l).tm).stt, .int .i64 ((l).tm).ev, .int .i64 ((l).tm).ct, .int .i64 ((l).tm).ba, .int .i64 ((l).tm).mo, .int .i64 ((l).tm).pen, .int .i64 ((l).tm).fe, .string ((l).tm).cal, .string ((l).tm).cur, .slice da (l).ds.length dk, .slice ca (l).cs.length ck] 27)).alloc (.cells #[.int .i64 0, .int .u64 0] 36)) w.heap.size #[.int .i64 (l).id, .int .i64 (l).ac, .int .i64 (l).st, .int .i64 (l).pp, .int .i64 (l).pi, .int .i64 (l).fee, .int .i64 (l).pen, .int .i64 (l).chg, .int .i64 (l).prov, .int .i64 (l).loss, .int .i64 (l).rcv, .int .i64 ((l).tm).me, .int .i64 ((l).tm).pr, .int .i64 ((l).tm).ppm, .int .i64 ((l).tm).stt, .int .i64 ((l).tm).ev, .int .i64 ((l).tm).ct, .int .i64 ((l).tm).ba, .int .i64 ((l).tm).mo, .int .i64 ((l).tm).pen, .int .i64 ((l).tm).fe, .string ((l).tm).cal, .string ((l).tm).cur, .slice da (l).ds.length dk, .slice ca (l).cs.length ck] 27 := Bk.Blk.nw20
  have k6 : Bk.Blk ((w.alloc (.cells #[.int .i64 (l).id, .int .i64 (l).ac, .int .i64 (l).st, .int .i64 (l).pp, .int .i64 (l).pi, .int .i64 (l).fee, .int .i64 (l).pen, .int .i64 (l).chg, .int .i64 (l).prov, .int .i64 (l).loss, .int .i64 (l).rcv, .int .i64 ((l).tm).me, .int .i64 ((l).tm).pr, .int .i64 ((l).tm).ppm, .int .i64 ((l).tm).stt, .int .i64 ((l).tm).ev, .int .i64 ((l).tm).ct, .int .i64 ((l).tm).ba, .int .i64 ((l).tm).mo, .int .i64 ((l).tm).pen, .int .i64 ((l).tm).fe, .string ((l).tm).cal, .string ((l).tm).cur, .slice da (l).ds.length dk, .slice ca (l).cs.length ck] 27)).alloc (.cells #[.int .i64 0, .int .u64 0] 36)) (w.heap.size + 1) #[.int .i64 0, .int .u64 0] 36 := Bk.Blk.nw21
  clear h
  unfold PenP
  rcases pen_ways l a b with ⟨h1, e, v⟩ | ⟨h1, h2, e, v⟩ | ⟨h1, h2, h3, e, v⟩ | ⟨h1, h2, h3, h4, e, v⟩ | ⟨h1, h2, h3, h4, h5, e, v⟩ | ⟨h1, h2, h3, h4, h5, e, v⟩
  · rw [e, v]
    clear e v
    rw [show hi 0 = 0 by decide, show lo 0 = 0 by decide]
    have HCK := Lib.hid hck
    clear hck HOV
    have g1 : (chk l != 0) = true := bne_iff_ne.2 h1
    generalize chk l = ch at *
    go_enter Tryd.func17, Tryd.ntmps17
    go_wp2_with (refine wpList_load_row rfl 27 _ rfl _ rfl _ _ _ _ (k0) Tryd.underlying27 rfl (by kernel_rfl) ?_)
    refine (HCK.out _ c0).mono ?_
    rintro e w1 ⟨rfl, hb⟩
    replace k0 := k0.later hb
    replace k6 := k6.later hb
    have c1 := bl2 hb c0
    clear hb c0
    have l60 := k6.c0
    have l61 := k6.c1
    have f60 := k6.f0
    have f61 := k6.f1
    go_wp2_with fail
    simp [bodyPost, results, Tryd.results17, go_sem, *]
    exact (by repeat (first | assumption | exact Below.refl _ _ | refine Below.setCell ?_ (by first | exact Nat.le_refl _ | (simp; done) | (simp; omega) | omega) _ | refine Below.alloc ?_ (by first | exact Nat.le_refl _ | (simp; done) | (simp; omega) | omega) _ | refine Below.drew ?_ | exact Nat.le_refl _))
  · rw [e, v]
    clear e v
    rw [show hi 0 = 0 by decide, show lo 0 = 0 by decide]
    rw [h1] at hck
    have HCK := Lib.hid hck
    clear hck
    clear HOV
    go_enter Tryd.func17, Tryd.ntmps17
    go_wp2_with (refine wpList_load_row rfl 27 _ rfl _ rfl _ _ _ _ (k0) Tryd.underlying27 rfl (by kernel_rfl) ?_)
    refine (HCK.out _ c0).mono ?_
    rintro e w1 ⟨rfl, hb⟩
    replace k0 := k0.later hb
    replace k6 := k6.later hb
    have c1 := bl2 hb c0
    clear hb c0
    have l60 := k6.c0
    have l61 := k6.c1
    have f60 := k6.f0
    have f61 := k6.f1
    go_wp2_with fail
    refine (aday_at h2 _).mono ?_
    rintro e w' ⟨rfl, rfl⟩
    go_wp2_with fail
    simp [bodyPost, results, Tryd.results17, go_sem, *]
    exact (by repeat (first | assumption | exact Below.refl _ _ | refine Below.setCell ?_ (by first | exact Nat.le_refl _ | (simp; done) | (simp; omega) | omega) _ | refine Below.alloc ?_ (by first | exact Nat.le_refl _ | (simp; done) | (simp; omega) | omega) _ | refine Below.drew ?_ | exact Nat.le_refl _))
  · rw [e, v]
    clear e v
    rw [show hi 0 = 0 by decide, show lo 0 = 0 by decide]
    rw [h1] at hck
    have HCK := Lib.hid hck
    clear hck
    clear HOV
    go_enter Tryd.func17, Tryd.ntmps17
    go_wp2_with (refine wpList_load_row rfl 27 _ rfl _ rfl _ _ _ _ (k0) Tryd.underlying27 rfl (by kernel_rfl) ?_)
    refine (HCK.out _ c0).mono ?_
    rintro e w1 ⟨rfl, hb⟩
    replace k0 := k0.later hb
    replace k6 := k6.later hb
    have c1 := bl2 hb c0
    clear hb c0
    have l60 := k6.c0
    have l61 := k6.c1
    have f60 := k6.f0
    have f61 := k6.f1
    go_wp2_with fail
    refine (aday_at h2 _).mono ?_
    rintro e w' ⟨rfl, rfl⟩
    go_wp2_with fail
    refine (aday_at h3 _).mono ?_
    rintro e w' ⟨rfl, rfl⟩
    go_wp2_with fail
    simp [bodyPost, results, Tryd.results17, go_sem, *]
    exact (by repeat (first | assumption | exact Below.refl _ _ | refine Below.setCell ?_ (by first | exact Nat.le_refl _ | (simp; done) | (simp; omega) | omega) _ | refine Below.alloc ?_ (by first | exact Nat.le_refl _ | (simp; done) | (simp; omega) | omega) _ | refine Below.drew ?_ | exact Nat.le_refl _))
  · rw [e, v]
    clear e v
    rw [show hi 0 = 0 by decide, show lo 0 = 0 by decide]
    rw [h1] at hck
    have HCK := Lib.hid hck
    clear hck
    clear HOV
    obtain ⟨a0, a1⟩ := dayB_iff.1 h2
    obtain ⟨b0, b1⟩ := dayB_iff.1 h3
    have g4 : decide (b < a) = true := decide_eq_true h4
    go_enter Tryd.func17, Tryd.ntmps17
    go_wp2_with (refine wpList_load_row rfl 27 _ rfl _ rfl _ _ _ _ (k0) Tryd.underlying27 rfl (by kernel_rfl) ?_)
    refine (HCK.out _ c0).mono ?_
    rintro e w1 ⟨rfl, hb⟩
    replace k0 := k0.later hb
    replace k6 := k6.later hb
    have c1 := bl2 hb c0
    clear hb c0
    have l60 := k6.c0
    have l61 := k6.c1
    have f60 := k6.f0
    have f61 := k6.f1
    go_wp2_with fail
    refine (aday_at h2 _).mono ?_
    rintro e w' ⟨rfl, rfl⟩
    go_wp2_with fail
    refine (aday_at h3 _).mono ?_
    rintro e w' ⟨rfl, rfl⟩
    go_wp2_with fail
    simp [bodyPost, results, Tryd.results17, go_sem, *]
    exact (by repeat (first | assumption | exact Below.refl _ _ | refine Below.setCell ?_ (by first | exact Nat.le_refl _ | (simp; done) | (simp; omega) | omega) _ | refine Below.alloc ?_ (by first | exact Nat.le_refl _ | (simp; done) | (simp; omega) | omega) _ | refine Below.drew ?_ | exact Nat.le_refl _))
  · rw [e, v]
    clear e v
    rw [show hi 0 = 0 by decide, show lo 0 = 0 by decide]
    rw [h1] at hck
    have HCK := Lib.hid hck
    clear hck
    clear HOV
    obtain ⟨a0, a1⟩ := dayB_iff.1 h2
    obtain ⟨b0, b1⟩ := dayB_iff.1 h3
    have g4 : decide (b < a) = false := decide_eq_false (by omega)
    have hw : IntKind.i64.wrap (b - a) = b - a := by rw [IntKind.wrap_i64]; omega
    have g5 : decide (4000 < b - a) = true := decide_eq_true h5
    go_enter Tryd.func17, Tryd.ntmps17
    go_wp2_with (refine wpList_load_row rfl 27 _ rfl _ rfl _ _ _ _ (k0) Tryd.underlying27 rfl (by kernel_rfl) ?_)
    refine (HCK.out _ c0).mono ?_
    rintro e w1 ⟨rfl, hb⟩
    replace k0 := k0.later hb
    replace k6 := k6.later hb
    have c1 := bl2 hb c0
    clear hb c0
    have l60 := k6.c0
    have l61 := k6.c1
    have f60 := k6.f0
    have f61 := k6.f1
    go_wp2_with fail
    refine (aday_at h2 _).mono ?_
    rintro e w' ⟨rfl, rfl⟩
    go_wp2_with fail
    refine (aday_at h3 _).mono ?_
    rintro e w' ⟨rfl, rfl⟩
    go_wp2_with fail
    simp [bodyPost, results, Tryd.results17, go_sem, *]
    exact (by repeat (first | assumption | exact Below.refl _ _ | refine Below.setCell ?_ (by first | exact Nat.le_refl _ | (simp; done) | (simp; omega) | omega) _ | refine Below.alloc ?_ (by first | exact Nat.le_refl _ | (simp; done) | (simp; omega) | omega) _ | refine Below.drew ?_ | exact Nat.le_refl _))
  · rw [e, v]
    clear e v
    rw [h1] at hck
    have HCK := Lib.hid hck
    clear hck
    obtain ⟨a0, a1⟩ := dayB_iff.1 h2
    obtain ⟨b0, b1⟩ := dayB_iff.1 h3
    have g4 : decide (b < a) = false := decide_eq_false (by omega)
    have hw : IntKind.i64.wrap (b - a) = b - a := by rw [IntKind.wrap_i64]; omega
    have g5 : decide (4000 < b - a) = false := decide_eq_false (by omega)
    have HOK := Lib.hid (ok_iff.1 h1)
    go_enter Tryd.func17, Tryd.ntmps17
    go_wp2_with (refine wpList_load_row rfl 27 _ rfl _ rfl _ _ _ _ (k0) Tryd.underlying27 rfl (by kernel_rfl) ?_)
    refine (HCK.out _ c0).mono ?_
    rintro e w1 ⟨rfl, hb⟩
    replace k0 := k0.later hb
    replace k6 := k6.later hb
    have c1 := bl2 hb c0
    clear hb c0
    go_wp2_with fail
    refine (aday_at h2 _).mono ?_
    rintro e w' ⟨rfl, rfl⟩
    go_wp2_with fail
    refine (aday_at h3 _).mono ?_
    rintro e w' ⟨rfl, rfl⟩
    go_upto_region 4 with fail
    have hal : Below w1.heap.size w1 (w1.alloc (.cells #[.int .i64 0, .int .u64 0] 36)) := (Below.refl _ _).alloc (Nat.le_refl _) _
    have k8 := Bk.Blk.nw10 (W := w1) (cs := #[.int .i64 0, .int .u64 0]) (t := 36)
    have gne : w.heap.size < w1.heap.size ∧ w.heap.size + 1 < w1.heap.size := ⟨k0.lt, k6.lt⟩
    replace k0 := k0.later hal
    replace k6 := k6.later hal
    have c2 := bl2 hal c1
    clear hal c1
    generalize w1.alloc (.cells #[.int .i64 0, .int .u64 0] 36) = w2 at *
    generalize w1.heap.size = g8 at *
    go_wp2_with fail
    go_loopg [9] (b - a).toNat (penR w l da ca dk ck a b g8)
    case atStart => exact ⟨0, by omega, by simp, k0, k6, k8, c2⟩
    case round =>
      clear k0 k6 k8 c2
      obtain ⟨k, hk, rfl, k0, k6, k8, cr⟩ := hrel
      by_cases hlt : k < (b - a).toNat
      · have gl : decide (a + (k : Int) < b) = true := decide_eq_true (by omega)
        have hwk : IntKind.i64.wrap (a + (k : Int) + 1) = a + ((k + 1 : Nat) : Int) := by rw [IntKind.wrap_i64]; omega
        have hD := HOK.out.penD (a + k)
        have HX := Lib.hid (show Ln.penS l a (k + 1) = Ln.penS l a k + Ln.penT l (a + k) from rfl)
        have HI := Lib.hid (And.intro (HOK.out.penI a (n := k) (by omega)) (HOK.out.penI a (n := k + 1) (by omega)))
        have HO := Lib.hid (HOV.out (a + k))
        have HMU := Lib.hid (fun (W : World) => mul_any (ovL l (a + k)) l.tm.pen W hD.a hD.b)
        have HWE := Lib.hid (fun (W : World) => (Dt.weight_any 3 (a + k) W))
        have HSC := Lib.hid (fun (W : World) => scale_in hD.m hD.v (show ovL l (a + k) * l.tm.pen * Cal.wei 3 (a + k) = Ln.penT l (a + k) from rfl) hD.x W)
        have HAD := Lib.hid (fun (W : World) => add_in HI.out.1 hD.x HX.out.symm HI.out.2 W)
        clear hD HX HI
        generalize ovL l (a + k) = ov at *
        generalize ov * l.tm.pen = m at *
        generalize Cal.wei 3 (a + k) = we at *
        generalize Ln.penT l (a + k) = x at *
        generalize Ln.penS l a k = s at *
        obtain ⟨s', hs'⟩ : ∃ z, z = Ln.penS l a (k + 1) := ⟨_, rfl⟩
        rw [← hs'] at HAD
        have HS := Lib.hid hs'
        clear hs'
        go_upto_region 7 with fail
        refine Reg.region_alloc 14 13 10 (.cells #[.int .i64 0, .int .u64 0] 36) [(12, 14)] (by kernel_rfl) (by kernel_rfl) (by kernel_rfl) (fun d _ _ _ _ h => by cases d <;> exact h) _ rfl rfl rfl (fun ρ W => by simp [go_sem, Reg.ptr]) ?_
        simp only [Reg.edges, Reg.edge]
        apply Exists.intro
        refine ⟨?_, ?_⟩
        · intro C hC
          simp only [Reg.blank, List.take_succ_cons, List.take_zero]
          have HB := Lib.hid (fun (W : World) (hW : C W) => k0.later (hC.sub _ hW))
          have q19 : ∀ W, Bk.In C W → W.cell? ⟨w.heap.size, 19, none⟩ = some (.int .i64 l.tm.pen) := fun W hW => (k0.later (hC.sub _ hW)).c19
          iterate 14 (first | go_big_quiet_skip | (go_big_quiet_want; (first | (refine quiet_load_row 27 _ rfl _ rfl _ _ _ _ (HB.out) Tryd.underlying27 rfl (by kernel_rfl) ?_; (simp only [Act.put, List.setIfInBounds_toArray, List.set_cons_zero, List.set_cons_succ]; go_big_quiet_on)) | (go_big_quiet_op; go_big_quiet_on) | (apply Reg.quiet_run; (intro W hW; have hI : Bk.In C W := hW; go_simp; (first | done | rfl | exact ⟨rfl, rfl⟩ )); (simp only [Act.put, List.setIfInBounds_toArray, List.set_cons_zero, List.set_cons_succ]; go_big_quiet_on)) | (apply Reg.quiet_call; (intro W hW; go_simp; (first | done | rfl | exact ⟨rfl, rfl⟩)); (intro W hW; (first | (go_at_call 11; exact hC.call hW (HO.out _ (bl2 (hC.sub _ hW) cr))) | (go_at_call 31; exact hC.call hW (HMU.out _)) | (go_at_call 32; exact hC.call hW (HWE.out _)) | (go_at_call 30; exact hC.call hW (HSC.out _)))); (simp only [Act.put, List.setIfInBounds_toArray, List.set_cons_zero, List.set_cons_succ]; go_big_quiet_on)))))
          exact wpQuiet_nil rfl
        intro W w3 hW hb
        have hX := Reg.alc_back hW hb
        have hn := Bk.Blk.made hb
        have gne : w.heap.size < W.heap.size ∧ w.heap.size + 1 < W.heap.size ∧ g8 < W.heap.size := ⟨Nat.lt_of_lt_of_le k0.lt (Below.size hW), Nat.lt_of_lt_of_le k6.lt (Below.size hW), Nat.lt_of_lt_of_le k8.lt (Below.size hW)⟩
        replace k0 := k0.later hX
        replace k6 := k6.later hX
        replace k8 := k8.later hX
        have c3 := bl2 hX cr
        clear hX hb hW cr
        simp only [List.drop_succ_cons, List.drop_zero, Act.put, List.setIfInBounds_toArray, List.set_cons_zero, List.set_cons_succ, Reg.ptr]
        generalize W.heap.size = g10 at *
        have hn_c0 := hn.c0
        have hn_c1 := hn.c1
        have hn_f0 := hn.f0
        have hn_f1 := hn.f1
        go_upto_region 8 with fail
        clear hn_c0 hn_c1 hn_f0 hn_f1
        replace k0 := (k0.set_ne (g' := g10) (j := 0) (u := .int .i64 (hi x)) (by omega)).set_ne (g' := g10) (j := 1) (u := .int .u64 (lo x)) (by omega)
        replace k6 := (k6.set_ne (g' := g10) (j := 0) (u := .int .i64 (hi x)) (by omega)).set_ne (g' := g10) (j := 1) (u := .int .u64 (lo x)) (by omega)
        replace k8 := (k8.set_ne (g' := g10) (j := 0) (u := .int .i64 (hi x)) (by omega)).set_ne (g' := g10) (j := 1) (u := .int .u64 (lo x)) (by omega)
        replace hn := hn.set2 (u := .int .i64 (hi x)) (v := .int .u64 (lo x))
        have c4 : Below w.heap.size w ((w3.setCell ⟨g10, 0, none⟩ (.int .i64 (hi x))).setCell ⟨g10, 1, none⟩ (.int .u64 (lo x))) := (c3.setCell (show w.heap.size ≤ g10 by omega) _).setCell (show w.heap.size ≤ g10 by omega) _
        clear c3
        generalize ((w3.setCell ⟨g10, 0, none⟩ (.int .i64 (hi x))).setCell ⟨g10, 1, none⟩ (.int .u64 (lo x))) = w4 at *
        have k8_c0 := k8.c0
        have k8_c1 := k8.c1
        have k8_f0 := k8.f0
        have k8_f1 := k8.f1
        have n0 := hn.c0
        have n1 := hn.c1
        go_wp2_with fail
        clear k8_c0 k8_c1 k8_f0 k8_f1
        clear n0 n1
        refine (HAD.out _).mono ?_
        rintro e w5 ⟨rfl, hb⟩
        have c5 := bl2 hb c4
        replace k0 := k0.later hb
        replace k6 := k6.later hb
        replace k8 := k8.later hb
        clear hb c4 hn
        have k8_c0 := k8.c0
        have k8_c1 := k8.c1
        have k8_f0 := k8.f0
        have k8_f1 := k8.f1
        go_wp2_with fail
        clear k8_c0 k8_c1 k8_f0 k8_f1
        replace k0 := (k0.set_ne (g' := g8) (j := 0) (u := .int .i64 (hi s')) (by omega)).set_ne (g' := g8) (j := 1) (u := .int .u64 (lo s')) (by omega)
        replace k6 := (k6.set_ne (g' := g8) (j := 0) (u := .int .i64 (hi s')) (by omega)).set_ne (g' := g8) (j := 1) (u := .int .u64 (lo s')) (by omega)
        replace k8 := k8.set2 (u := .int .i64 (hi s')) (v := .int .u64 (lo s'))
        have c6 : Below w.heap.size w ((w5.setCell ⟨g8, 0, none⟩ (.int .i64 (hi s'))).setCell ⟨g8, 1, none⟩ (.int .u64 (lo s'))) := (c5.setCell (show w.heap.size ≤ g8 by omega) _).setCell (show w.heap.size ≤ g8 by omega) _
        clear c5
        generalize ((w5.setCell ⟨g8, 0, none⟩ (.int .i64 (hi s'))).setCell ⟨g8, 1, none⟩ (.int .u64 (lo s'))) = w6 at *
        go_roundg (gk - 1)
        case measure => omega
        case rel => exact ⟨k + 1, by omega, by go_num, k0, k6, by rw [← HS.out]; exact k8, c6⟩
      · have hkn : k = (b - a).toNat := by omega
        have gl : decide (a + (k : Int) < b) = false := decide_eq_false (by omega)
        have HE := Lib.hid (show Ln.penS l a k = Ln.penS l a (b - a).toNat by rw [hkn])
        clear hkn
        generalize Ln.penS l a k = s at *
        have k8_c0 := k8.c0
        have k8_c1 := k8.c1
        have k8_f0 := k8.f0
        have k8_f1 := k8.f1
        have k6_c0 := k6.c0
        have k6_c1 := k6.c1
        have k6_f0 := k6.f0
        have k6_f1 := k6.f1
        go_wp2_with fail
        simp [bodyPost, results, Tryd.results17, go_sem, *]
        refine ⟨by rw [← HE.out]; first | rfl | exact ⟨rfl, rfl⟩ | simp, (by repeat (first | assumption | exact Below.refl _ _ | refine Below.setCell ?_ (by first | exact Nat.le_refl _ | (simp; done) | (simp; omega) | omega) _ | refine Below.alloc ?_ (by first | exact Nat.le_refl _ | (simp; done) | (simp; omega) | omega) _ | refine Below.drew ?_ | exact Nat.le_refl _))⟩

set_option maxRecDepth 100000 in
set_option maxHeartbeats 16000000 in
theorem rpen_any (l : Lo) (da ca : Option Addr) (dk ck : Nat) (a b : Int) (w : World) (h : DuesIn w da l.ds) (hd : Dok l.ds) :
    Calls Tryd.prog 18 #[(.agg #[.int .i64 (l).id, .int .i64 (l).ac, .int .i64 (l).st, .int .i64 (l).pp, .int .i64 (l).pi, .int .i64 (l).fee, .int .i64 (l).pen, .int .i64 (l).chg, .int .i64 (l).prov, .int .i64 (l).loss, .int .i64 (l).rcv, .int .i64 ((l).tm).me, .int .i64 ((l).tm).pr, .int .i64 ((l).tm).ppm, .int .i64 ((l).tm).stt, .int .i64 ((l).tm).ev, .int .i64 ((l).tm).ct, .int .i64 ((l).tm).ba, .int .i64 ((l).tm).mo, .int .i64 ((l).tm).pen, .int .i64 ((l).tm).fe, .string ((l).tm).cal, .string ((l).tm).cur, .slice da (l).ds.length dk, .slice ca (l).cs.length ck]), .int .i64 a, .int .i64 b] w (PenP l a b w) := by
  have hck := fun (W : World) (hW : Below w.heap.size w W) => rcheck_any l da ca dk ck W (h.later hW) hd
  have HOV := Lib.hid (fun (d : Int) (W : World) (hW : Below w.heap.size w W) => rod_any l da ca dk ck d W (h.later hW))
  have c0 : Below w.heap.size w ((w.alloc (.cells #[.int .i64 (l).id, .int .i64 (l).ac, .int .i64 (l).st, .int .i64 (l).pp, .int .i64 (l).pi, .int .i64 (l).fee, .int .i64 (l).pen, .int .i64 (l).chg, .int .i64 (l).prov, .int .i64 (l).loss, .int .i64 (l).rcv, .int .i64 ((l).tm).me, .int .i64 ((l).tm).pr, .int .i64 ((l).tm).ppm, .int .i64 ((l).tm).stt, .int .i64 ((l).tm).ev, .int .i64 ((l).tm).ct, .int .i64 ((l).tm).ba, .int .i64 ((l).tm).mo, .int .i64 ((l).tm).pen, .int .i64 ((l).tm).fe, .string ((l).tm).cal, .string ((l).tm).cur, .slice da (l).ds.length dk, .slice ca (l).cs.length ck] 27)).alloc (.cells #[.int .i64 0, .int .u64 0] 36)) := ((Below.refl _ _).alloc (Nat.le_refl _) _).alloc (by simp) _
  have k0 : Bk.Blk ((w.alloc (.cells #[.int .i64 (l).id, .int .i64 (l).ac, .int .i64 (l).st, .int .i64 (l).pp, .int .i64 (l).pi, .int .i64 (l).fee, .int .i64 (l).pen, .int .i64 (l).chg, .int .i64 (l).prov, .int .i64 (l).loss, .int .i64 (l).rcv, .int .i64 ((l).tm).me, .int .i64 ((l).tm).pr, .int .i64 ((l).tm).ppm, .int .i64 ((l).tm).stt, .int .i64 ((l).tm).ev, .int .i64 ((l).tm).ct, .int .i64 ((l).tm).ba, .int .i64 ((l).tm).mo, .int .i64 ((l).tm).pen, .int .i64 ((l).tm).fe, .string ((l).tm).cal, .string ((l).tm).cur, .slice da (l).ds.length dk, .slice ca (l).cs.length ck] 27)).alloc (.cells #[.int .i64 0, .int .u64 0] 36)) w.heap.size #[.int .i64 (l).id, .int .i64 (l).ac, .int .i64 (l).st, .int .i64 (l).pp, .int .i64 (l).pi, .int .i64 (l).fee, .int .i64 (l).pen, .int .i64 (l).chg, .int .i64 (l).prov, .int .i64 (l).loss, .int .i64 (l).rcv, .int .i64 ((l).tm).me, .int .i64 ((l).tm).pr, .int .i64 ((l).tm).ppm, .int .i64 ((l).tm).stt, .int .i64 ((l).tm).ev, .int .i64 ((l).tm).ct, .int .i64 ((l).tm).ba, .int .i64 ((l).tm).mo, .int .i64 ((l).tm).pen, .int .i64 ((l).tm).fe, .string ((l).tm).cal, .string ((l).tm).cur, .slice da (l).ds.length dk, .slice ca (l).cs.length ck] 27 := Bk.Blk.nw20
  have k6 : Bk.Blk ((w.alloc (.cells #[.int .i64 (l).id, .int .i64 (l).ac, .int .i64 (l).st, .int .i64 (l).pp, .int .i64 (l).pi, .int .i64 (l).fee, .int .i64 (l).pen, .int .i64 (l).chg, .int .i64 (l).prov, .int .i64 (l).loss, .int .i64 (l).rcv, .int .i64 ((l).tm).me, .int .i64 ((l).tm).pr, .int .i64 ((l).tm).ppm, .int .i64 ((l).tm).stt, .int .i64 ((l).tm).ev, .int .i64 ((l).tm).ct, .int .i64 ((l).tm).ba, .int .i64 ((l).tm).mo, .int .i64 ((l).tm).pen, .int .i64 ((l).tm).fe, .string ((l).tm).cal, .string ((l).tm).cur, .slice da (l).ds.length dk, .slice ca (l).cs.length ck] 27)).alloc (.cells #[.int .i64 0, .int .u64 0] 36)) (w.heap.size + 1) #[.int .i64 0, .int .u64 0] 36 := Bk.Blk.nw21
  clear h
  unfold PenP
  rcases pen_ways l a b with ⟨h1, e, v⟩ | ⟨h1, h2, e, v⟩ | ⟨h1, h2, h3, e, v⟩ | ⟨h1, h2, h3, h4, e, v⟩ | ⟨h1, h2, h3, h4, h5, e, v⟩ | ⟨h1, h2, h3, h4, h5, e, v⟩
  · rw [e, v]
    clear e v
    rw [show hi 0 = 0 by decide, show lo 0 = 0 by decide]
    have HCK := Lib.hid hck
    clear hck HOV
    have g1 : (chk l != 0) = true := bne_iff_ne.2 h1
    generalize chk l = ch at *
    go_enter Tryd.func18, Tryd.ntmps18
    go_wp2_with (refine wpList_load_row rfl 27 _ rfl _ rfl _ _ _ _ (k0) Tryd.underlying27 rfl (by kernel_rfl) ?_)
    refine (HCK.out _ c0).mono ?_
    rintro e w1 ⟨rfl, hb⟩
    replace k0 := k0.later hb
    replace k6 := k6.later hb
    have c1 := bl2 hb c0
    clear hb c0
    have l60 := k6.c0
    have l61 := k6.c1
    have f60 := k6.f0
    have f61 := k6.f1
    go_wp2_with fail
    simp [bodyPost, results, Tryd.results18, go_sem, *]
    exact (by repeat (first | assumption | exact Below.refl _ _ | refine Below.setCell ?_ (by first | exact Nat.le_refl _ | (simp; done) | (simp; omega) | omega) _ | refine Below.alloc ?_ (by first | exact Nat.le_refl _ | (simp; done) | (simp; omega) | omega) _ | refine Below.drew ?_ | exact Nat.le_refl _))
  · rw [e, v]
    clear e v
    rw [show hi 0 = 0 by decide, show lo 0 = 0 by decide]
    rw [h1] at hck
    have HCK := Lib.hid hck
    clear hck
    clear HOV
    go_enter Tryd.func18, Tryd.ntmps18
    go_wp2_with (refine wpList_load_row rfl 27 _ rfl _ rfl _ _ _ _ (k0) Tryd.underlying27 rfl (by kernel_rfl) ?_)
    refine (HCK.out _ c0).mono ?_
    rintro e w1 ⟨rfl, hb⟩
    replace k0 := k0.later hb
    replace k6 := k6.later hb
    have c1 := bl2 hb c0
    clear hb c0
    have l60 := k6.c0
    have l61 := k6.c1
    have f60 := k6.f0
    have f61 := k6.f1
    go_wp2_with fail
    refine (rday_at h2 _).mono ?_
    rintro e w' ⟨rfl, rfl⟩
    go_wp2_with fail
    simp [bodyPost, results, Tryd.results18, go_sem, *]
    exact (by repeat (first | assumption | exact Below.refl _ _ | refine Below.setCell ?_ (by first | exact Nat.le_refl _ | (simp; done) | (simp; omega) | omega) _ | refine Below.alloc ?_ (by first | exact Nat.le_refl _ | (simp; done) | (simp; omega) | omega) _ | refine Below.drew ?_ | exact Nat.le_refl _))
  · rw [e, v]
    clear e v
    rw [show hi 0 = 0 by decide, show lo 0 = 0 by decide]
    rw [h1] at hck
    have HCK := Lib.hid hck
    clear hck
    clear HOV
    go_enter Tryd.func18, Tryd.ntmps18
    go_wp2_with (refine wpList_load_row rfl 27 _ rfl _ rfl _ _ _ _ (k0) Tryd.underlying27 rfl (by kernel_rfl) ?_)
    refine (HCK.out _ c0).mono ?_
    rintro e w1 ⟨rfl, hb⟩
    replace k0 := k0.later hb
    replace k6 := k6.later hb
    have c1 := bl2 hb c0
    clear hb c0
    have l60 := k6.c0
    have l61 := k6.c1
    have f60 := k6.f0
    have f61 := k6.f1
    go_wp2_with fail
    refine (rday_at h2 _).mono ?_
    rintro e w' ⟨rfl, rfl⟩
    go_wp2_with fail
    refine (rday_at h3 _).mono ?_
    rintro e w' ⟨rfl, rfl⟩
    go_wp2_with fail
    simp [bodyPost, results, Tryd.results18, go_sem, *]
    exact (by repeat (first | assumption | exact Below.refl _ _ | refine Below.setCell ?_ (by first | exact Nat.le_refl _ | (simp; done) | (simp; omega) | omega) _ | refine Below.alloc ?_ (by first | exact Nat.le_refl _ | (simp; done) | (simp; omega) | omega) _ | refine Below.drew ?_ | exact Nat.le_refl _))
  · rw [e, v]
    clear e v
    rw [show hi 0 = 0 by decide, show lo 0 = 0 by decide]
    rw [h1] at hck
    have HCK := Lib.hid hck
    clear hck
    clear HOV
    obtain ⟨a0, a1⟩ := dayB_iff.1 h2
    obtain ⟨b0, b1⟩ := dayB_iff.1 h3
    have g4 : decide (b < a) = true := decide_eq_true h4
    go_enter Tryd.func18, Tryd.ntmps18
    go_wp2_with (refine wpList_load_row rfl 27 _ rfl _ rfl _ _ _ _ (k0) Tryd.underlying27 rfl (by kernel_rfl) ?_)
    refine (HCK.out _ c0).mono ?_
    rintro e w1 ⟨rfl, hb⟩
    replace k0 := k0.later hb
    replace k6 := k6.later hb
    have c1 := bl2 hb c0
    clear hb c0
    have l60 := k6.c0
    have l61 := k6.c1
    have f60 := k6.f0
    have f61 := k6.f1
    go_wp2_with fail
    refine (rday_at h2 _).mono ?_
    rintro e w' ⟨rfl, rfl⟩
    go_wp2_with fail
    refine (rday_at h3 _).mono ?_
    rintro e w' ⟨rfl, rfl⟩
    go_wp2_with fail
    simp [bodyPost, results, Tryd.results18, go_sem, *]
    exact (by repeat (first | assumption | exact Below.refl _ _ | refine Below.setCell ?_ (by first | exact Nat.le_refl _ | (simp; done) | (simp; omega) | omega) _ | refine Below.alloc ?_ (by first | exact Nat.le_refl _ | (simp; done) | (simp; omega) | omega) _ | refine Below.drew ?_ | exact Nat.le_refl _))
  · rw [e, v]
    clear e v
    rw [show hi 0 = 0 by decide, show lo 0 = 0 by decide]
    rw [h1] at hck
    have HCK := Lib.hid hck
    clear hck
    clear HOV
    obtain ⟨a0, a1⟩ := dayB_iff.1 h2
    obtain ⟨b0, b1⟩ := dayB_iff.1 h3
    have g4 : decide (b < a) = false := decide_eq_false (by omega)
    have hw : IntKind.i64.wrap (b - a) = b - a := by rw [IntKind.wrap_i64]; omega
    have g5 : decide (4000 < b - a) = true := decide_eq_true h5
    go_enter Tryd.func18, Tryd.ntmps18
    go_wp2_with (refine wpList_load_row rfl 27 _ rfl _ rfl _ _ _ _ (k0) Tryd.underlying27 rfl (by kernel_rfl) ?_)
    refine (HCK.out _ c0).mono ?_
    rintro e w1 ⟨rfl, hb⟩
    replace k0 := k0.later hb
    replace k6 := k6.later hb
    have c1 := bl2 hb c0
    clear hb c0
    have l60 := k6.c0
    have l61 := k6.c1
    have f60 := k6.f0
    have f61 := k6.f1
    go_wp2_with fail
    refine (rday_at h2 _).mono ?_
    rintro e w' ⟨rfl, rfl⟩
    go_wp2_with fail
    refine (rday_at h3 _).mono ?_
    rintro e w' ⟨rfl, rfl⟩
    go_wp2_with fail
    simp [bodyPost, results, Tryd.results18, go_sem, *]
    exact (by repeat (first | assumption | exact Below.refl _ _ | refine Below.setCell ?_ (by first | exact Nat.le_refl _ | (simp; done) | (simp; omega) | omega) _ | refine Below.alloc ?_ (by first | exact Nat.le_refl _ | (simp; done) | (simp; omega) | omega) _ | refine Below.drew ?_ | exact Nat.le_refl _))
  · rw [e, v]
    clear e v
    rw [h1] at hck
    have HCK := Lib.hid hck
    clear hck
    obtain ⟨a0, a1⟩ := dayB_iff.1 h2
    obtain ⟨b0, b1⟩ := dayB_iff.1 h3
    have g4 : decide (b < a) = false := decide_eq_false (by omega)
    have hw : IntKind.i64.wrap (b - a) = b - a := by rw [IntKind.wrap_i64]; omega
    have g5 : decide (4000 < b - a) = false := decide_eq_false (by omega)
    have HOK := Lib.hid (ok_iff.1 h1)
    go_enter Tryd.func18, Tryd.ntmps18
    go_wp2_with (refine wpList_load_row rfl 27 _ rfl _ rfl _ _ _ _ (k0) Tryd.underlying27 rfl (by kernel_rfl) ?_)
    refine (HCK.out _ c0).mono ?_
    rintro e w1 ⟨rfl, hb⟩
    replace k0 := k0.later hb
    replace k6 := k6.later hb
    have c1 := bl2 hb c0
    clear hb c0
    go_wp2_with fail
    refine (rday_at h2 _).mono ?_
    rintro e w' ⟨rfl, rfl⟩
    go_wp2_with fail
    refine (rday_at h3 _).mono ?_
    rintro e w' ⟨rfl, rfl⟩
    go_upto_region 4 with fail
    have hal : Below w1.heap.size w1 (w1.alloc (.cells #[.int .i64 0, .int .u64 0] 36)) := (Below.refl _ _).alloc (Nat.le_refl _) _
    have k8 := Bk.Blk.nw10 (W := w1) (cs := #[.int .i64 0, .int .u64 0]) (t := 36)
    have gne : w.heap.size < w1.heap.size ∧ w.heap.size + 1 < w1.heap.size := ⟨k0.lt, k6.lt⟩
    replace k0 := k0.later hal
    replace k6 := k6.later hal
    have c2 := bl2 hal c1
    clear hal c1
    generalize w1.alloc (.cells #[.int .i64 0, .int .u64 0] 36) = w2 at *
    generalize w1.heap.size = g8 at *
    go_wp2_with fail
    go_loopg [9] (b - a).toNat (penR w l da ca dk ck a b g8)
    case atStart => exact ⟨0, by omega, by simp, k0, k6, k8, c2⟩
    case round =>
      clear k0 k6 k8 c2
      obtain ⟨k, hk, rfl, k0, k6, k8, cr⟩ := hrel
      by_cases hlt : k < (b - a).toNat
      · have gl : decide (a + (k : Int) < b) = true := decide_eq_true (by omega)
        have hwk : IntKind.i64.wrap (a + (k : Int) + 1) = a + ((k + 1 : Nat) : Int) := by rw [IntKind.wrap_i64]; omega
        have hD := HOK.out.penD (a + k)
        have HX := Lib.hid (show Ln.penS l a (k + 1) = Ln.penS l a k + Ln.penT l (a + k) from rfl)
        have HI := Lib.hid (And.intro (HOK.out.penI a (n := k) (by omega)) (HOK.out.penI a (n := k + 1) (by omega)))
        have HO := Lib.hid (HOV.out (a + k))
        have HMU := Lib.hid (fun (W : World) => rmul_any (ovL l (a + k)) l.tm.pen W hD.a hD.b)
        have HWE := Lib.hid (fun (W : World) => (Dt.rweight_any 3 (a + k) W))
        have HSC := Lib.hid (fun (W : World) => rscale_in hD.m hD.v (show ovL l (a + k) * l.tm.pen * Cal.wei 3 (a + k) = Ln.penT l (a + k) from rfl) hD.x W)
        have HAD := Lib.hid (fun (W : World) => radd_at HI.out.1 hD.x HX.out.symm HI.out.2 W)
        clear hD HX HI
        generalize ovL l (a + k) = ov at *
        generalize ov * l.tm.pen = m at *
        generalize Cal.wei 3 (a + k) = we at *
        generalize Ln.penT l (a + k) = x at *
        generalize Ln.penS l a k = s at *
        obtain ⟨s', hs'⟩ : ∃ z, z = Ln.penS l a (k + 1) := ⟨_, rfl⟩
        rw [← hs'] at HAD
        have HS := Lib.hid hs'
        clear hs'
        go_upto_region 7 with fail
        refine Reg.region_alloc 8 7 10 (.cells #[.int .i64 0, .int .u64 0] 36) [] (by kernel_rfl) (by kernel_rfl) (by kernel_rfl) (fun d _ _ _ _ h => by cases d <;> exact h) _ rfl rfl rfl (fun ρ W => by simp [go_sem, Reg.ptr]) ?_
        simp only [Reg.edges, Reg.edge]
        apply Exists.intro
        refine ⟨?_, ?_⟩
        · intro C hC
          simp only [Reg.blank, List.take_succ_cons, List.take_zero]
          have HB := Lib.hid (fun (W : World) (hW : C W) => k0.later (hC.sub _ hW))
          have q19 : ∀ W, Bk.In C W → W.cell? ⟨w.heap.size, 19, none⟩ = some (.int .i64 l.tm.pen) := fun W hW => (k0.later (hC.sub _ hW)).c19
          iterate 8 (first | go_big_quiet_skip | (go_big_quiet_want; (first | (refine quiet_load_row 27 _ rfl _ rfl _ _ _ _ (HB.out) Tryd.underlying27 rfl (by kernel_rfl) ?_; (simp only [Act.put, List.setIfInBounds_toArray, List.set_cons_zero, List.set_cons_succ]; go_big_quiet_on)) | (go_big_quiet_op; go_big_quiet_on) | (apply Reg.quiet_run; (intro W hW; have hI : Bk.In C W := hW; go_simp; (first | done | rfl | exact ⟨rfl, rfl⟩ )); (simp only [Act.put, List.setIfInBounds_toArray, List.set_cons_zero, List.set_cons_succ]; go_big_quiet_on)) | (apply Reg.quiet_call; (intro W hW; go_simp; (first | done | rfl | exact ⟨rfl, rfl⟩)); (intro W hW; (first | (go_at_call 12; exact hC.call hW (HO.out _ (bl2 (hC.sub _ hW) cr))) | (go_at_call 28; exact hC.call hW (HMU.out _)))); (simp only [Act.put, List.setIfInBounds_toArray, List.set_cons_zero, List.set_cons_succ]; go_big_quiet_on)))))
          exact wpQuiet_nil rfl
        intro W w3 hW hb
        have hX := Reg.alc_back hW hb
        have hn := Bk.Blk.made hb
        have gne : w.heap.size < W.heap.size ∧ w.heap.size + 1 < W.heap.size ∧ g8 < W.heap.size := ⟨Nat.lt_of_lt_of_le k0.lt (Below.size hW), Nat.lt_of_lt_of_le k6.lt (Below.size hW), Nat.lt_of_lt_of_le k8.lt (Below.size hW)⟩
        replace k0 := k0.later hX
        replace k6 := k6.later hX
        replace k8 := k8.later hX
        have c3 := bl2 hX cr
        clear hX hb hW cr
        simp only [List.drop_succ_cons, List.drop_zero, Act.put, List.setIfInBounds_toArray, List.set_cons_zero, List.set_cons_succ, Reg.ptr]
        generalize W.heap.size = g10 at *
        have hn_c0 := hn.c0
        have hn_c1 := hn.c1
        have hn_f0 := hn.f0
        have hn_f1 := hn.f1
        go_upto_region 8 with fail
        clear hn_c0 hn_c1 hn_f0 hn_f1
        replace k0 := (k0.set_ne (g' := g10) (j := 0) (u := .int .i64 (hi m)) (by omega)).set_ne (g' := g10) (j := 1) (u := .int .u64 (lo m)) (by omega)
        replace k6 := (k6.set_ne (g' := g10) (j := 0) (u := .int .i64 (hi m)) (by omega)).set_ne (g' := g10) (j := 1) (u := .int .u64 (lo m)) (by omega)
        replace k8 := (k8.set_ne (g' := g10) (j := 0) (u := .int .i64 (hi m)) (by omega)).set_ne (g' := g10) (j := 1) (u := .int .u64 (lo m)) (by omega)
        replace hn := hn.set2 (u := .int .i64 (hi m)) (v := .int .u64 (lo m))
        have c4 : Below w.heap.size w ((w3.setCell ⟨g10, 0, none⟩ (.int .i64 (hi m))).setCell ⟨g10, 1, none⟩ (.int .u64 (lo m))) := (c3.setCell (show w.heap.size ≤ g10 by omega) _).setCell (show w.heap.size ≤ g10 by omega) _
        clear c3
        generalize ((w3.setCell ⟨g10, 0, none⟩ (.int .i64 (hi m))).setCell ⟨g10, 1, none⟩ (.int .u64 (lo m))) = w4 at *
        have q0 : ∀ W', Reg.Cls w4 W' → W'.cell? ⟨g10, 0, none⟩ = some (.int .i64 (hi m)) := fun W' hW => (hn.later hW).c0
        have q1 : ∀ W', Reg.Cls w4 W' → W'.cell? ⟨g10, 1, none⟩ = some (.int .u64 (lo m)) := fun W' hW => (hn.later hW).c1
        refine Reg.region_tail_e 7 [(6, 7)] (by kernel_rfl) (by kernel_rfl) (by kernel_rfl) (fun d _ _ _ _ h => by cases d <;> exact h) ?_
        simp only [Reg.edges, Reg.edge, List.take_succ_cons, List.take_zero]
        iterate 7 (first | go_big_quiet_skip | (go_big_quiet_want; (first | (go_big_quiet_op; go_big_quiet_on) | (apply Reg.quiet_run; (intro W hW; skip; go_simp; (first | done | rfl | exact ⟨rfl, rfl⟩ )); (simp only [Act.put, List.setIfInBounds_toArray, List.set_cons_zero, List.set_cons_succ]; go_big_quiet_on)) | (apply Reg.quiet_call; (intro W hW; go_simp; (first | done | rfl | exact ⟨rfl, rfl⟩)); (intro W hW; (first | (go_at_call 37; exact Reg.cls_same hW (HWE.out _)) | (go_at_call 36; exact Reg.cls_call hW (HSC.out _)))); (simp only [Act.put, List.setIfInBounds_toArray, List.set_cons_zero, List.set_cons_succ]; go_big_quiet_on)))))
        refine wpQuiet_nil ?_
        intro w4b hW
        replace k0 := k0.later hW
        replace k6 := k6.later hW
        replace k8 := k8.later hW
        replace hn := hn.later hW
        have c4b := bl2 hW c4
        clear hW c4 q0 q1
        simp only [List.drop_succ_cons, List.drop_zero]
        have hn_c0 := hn.c0
        have hn_c1 := hn.c1
        have hn_f0 := hn.f0
        have hn_f1 := hn.f1
        go_upto_region 9 with fail
        clear hn_c0 hn_c1 hn_f0 hn_f1
        replace k0 := (k0.set_ne (g' := g10) (j := 0) (u := .int .i64 (hi x)) (by omega)).set_ne (g' := g10) (j := 1) (u := .int .u64 (lo x)) (by omega)
        replace k6 := (k6.set_ne (g' := g10) (j := 0) (u := .int .i64 (hi x)) (by omega)).set_ne (g' := g10) (j := 1) (u := .int .u64 (lo x)) (by omega)
        replace k8 := (k8.set_ne (g' := g10) (j := 0) (u := .int .i64 (hi x)) (by omega)).set_ne (g' := g10) (j := 1) (u := .int .u64 (lo x)) (by omega)
        replace hn := hn.set2 (u := .int .i64 (hi x)) (v := .int .u64 (lo x))
        have c4 : Below w.heap.size w ((w4b.setCell ⟨g10, 0, none⟩ (.int .i64 (hi x))).setCell ⟨g10, 1, none⟩ (.int .u64 (lo x))) := (c4b.setCell (show w.heap.size ≤ g10 by omega) _).setCell (show w.heap.size ≤ g10 by omega) _
        clear c4b
        generalize ((w4b.setCell ⟨g10, 0, none⟩ (.int .i64 (hi x))).setCell ⟨g10, 1, none⟩ (.int .u64 (lo x))) = w4 at *
        have k8_c0 := k8.c0
        have k8_c1 := k8.c1
        have k8_f0 := k8.f0
        have k8_f1 := k8.f1
        have n0 := hn.c0
        have n1 := hn.c1
        go_wp2_with fail
        clear k8_c0 k8_c1 k8_f0 k8_f1
        clear n0 n1
        refine (HAD.out _).mono ?_
        rintro e w5 ⟨rfl, hb⟩
        have c5 := bl2 hb c4
        replace k0 := k0.later hb
        replace k6 := k6.later hb
        replace k8 := k8.later hb
        clear hb c4 hn
        have k8_c0 := k8.c0
        have k8_c1 := k8.c1
        have k8_f0 := k8.f0
        have k8_f1 := k8.f1
        go_wp2_with fail
        clear k8_c0 k8_c1 k8_f0 k8_f1
        replace k0 := (k0.set_ne (g' := g8) (j := 0) (u := .int .i64 (hi s')) (by omega)).set_ne (g' := g8) (j := 1) (u := .int .u64 (lo s')) (by omega)
        replace k6 := (k6.set_ne (g' := g8) (j := 0) (u := .int .i64 (hi s')) (by omega)).set_ne (g' := g8) (j := 1) (u := .int .u64 (lo s')) (by omega)
        replace k8 := k8.set2 (u := .int .i64 (hi s')) (v := .int .u64 (lo s'))
        have c6 : Below w.heap.size w ((w5.setCell ⟨g8, 0, none⟩ (.int .i64 (hi s'))).setCell ⟨g8, 1, none⟩ (.int .u64 (lo s'))) := (c5.setCell (show w.heap.size ≤ g8 by omega) _).setCell (show w.heap.size ≤ g8 by omega) _
        clear c5
        generalize ((w5.setCell ⟨g8, 0, none⟩ (.int .i64 (hi s'))).setCell ⟨g8, 1, none⟩ (.int .u64 (lo s'))) = w6 at *
        go_roundg (gk - 1)
        case measure => omega
        case rel => exact ⟨k + 1, by omega, by go_num, k0, k6, by rw [← HS.out]; exact k8, c6⟩
      · have hkn : k = (b - a).toNat := by omega
        have gl : decide (a + (k : Int) < b) = false := decide_eq_false (by omega)
        have HE := Lib.hid (show Ln.penS l a k = Ln.penS l a (b - a).toNat by rw [hkn])
        clear hkn
        generalize Ln.penS l a k = s at *
        have k8_c0 := k8.c0
        have k8_c1 := k8.c1
        have k8_f0 := k8.f0
        have k8_f1 := k8.f1
        have k6_c0 := k6.c0
        have k6_c1 := k6.c1
        have k6_f0 := k6.f0
        have k6_f1 := k6.f1
        go_wp2_with fail
        simp [bodyPost, results, Tryd.results18, go_sem, *]
        refine ⟨by rw [← HE.out]; first | rfl | exact ⟨rfl, rfl⟩ | simp, (by repeat (first | assumption | exact Below.refl _ _ | refine Below.setCell ?_ (by first | exact Nat.le_refl _ | (simp; done) | (simp; omega) | omega) _ | refine Below.alloc ?_ (by first | exact Nat.le_refl _ | (simp; done) | (simp; omega) | omega) _ | refine Below.drew ?_ | exact Nat.le_refl _))⟩
end Go.Proofs.YtjmgahdjojdanaaDoor.Ln
