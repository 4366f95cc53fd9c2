/-
  The contracts of the reference's Scale and Mul: the product, or zero and the error.
-/
import Derived.Test.YtjmgahdjojdanaaDoorR3
import Derived.Deep.RegionWith
namespace Go.Proofs.YtjmgahdjojdanaaDoor.Wt
open Go.RowKit
open Go.Proofs.YtjmgahdjojdanaaDoor
open Go.Proofs.YtjmgahdjojdanaaDoor.Wm

/-- What Join returns for the product of a number and a factor, where the magnitude is known. -/
theorem join_of (x : Int) (neg : Bool) (w : World) (hx : I128 x) (hneg : neg = decide (x < 0) ∨ x = 0) :
    Calls Tryd.prog 73 #[.bool neg, .agg #[.int .u64 (hi (ab x)), .int .u64 (lo (ab x))]] w fun e w' => e = .returned (.tuple #[.agg #[.int .i64 (hi x), .int .u64 (lo x)], .bool true]) ∧ Below w.heap.size w w' := by
  unfold I128 at hx
  cases neg
  · have h0 : 0 ≤ x := by
      rcases hneg with h | h
      · have := of_decide_eq_false h.symm; omega
      · omega
    rw [ab_pos h0]
    exact join_pos x w h0 (by omega)
  · have h0 : x ≤ 0 := by
      rcases hneg with h | h
      · have := of_decide_eq_true h.symm; omega
      · omega
    have e : ab x = -x := by unfold ab; split <;> omega
    rw [e]
    by_cases g : x = -170141183460469231731687303715884105728
    · rw [g, Int.neg_neg, hi_2127, lo_2127, hi_n2127, lo_n2127]
      exact join_low w
    · have := join_neg (-x) w (by omega) (by omega)
      rw [Int.neg_neg] at this
      exact this
theorem join_not (x : Int) (neg : Bool) (w : World) (hx : ¬ I128 x) (hu : U128 (ab x)) (hneg : neg = decide (x < 0)) :
    Calls Tryd.prog 73 #[.bool neg, .agg #[.int .u64 (hi (ab x)), .int .u64 (lo (ab x))]] w (NoJoin w) := by
  unfold I128 at hx
  cases neg
  · have h0 := of_decide_eq_false hneg.symm
    have e : ab x = x := ab_pos (by omega)
    rw [e] at hu ⊢
    exact join_pos_no x w hu (by omega)
  · have h0 := of_decide_eq_true hneg.symm
    have e : ab x = -x := ab_neg h0
    rw [e] at hu ⊢
    by_cases g : 9223372036854775808 < hi (-x)
    · exact join_neg_no1 _ _ w g
    · have e1 : hi (-x) = 9223372036854775808 := by unfold hi at g ⊢; omega
      have e2 : 0 < lo (-x) := by unfold lo; unfold hi at g; omega
      rw [e1]
      exact join_neg_no2 _ w e2
/-- A number that is left open, and some bool. -/
def SomeJoin (w : World) (e : Ending) (w' : World) : Prop := ∃ (a b : Int) (f : Bool), e = .returned (.tuple #[.agg #[.int .i64 a, .int .u64 b], .bool f]) ∧ Below w.heap.size w w'
theorem join_some (m : Int) (neg : Bool) (w : World) (hu : U128 m) :
    Calls Tryd.prog 73 #[.bool neg, .agg #[.int .u64 (hi m), .int .u64 (lo m)]] w (SomeJoin w) := by
  cases neg
  · by_cases h : m ≤ 170141183460469231731687303715884105727
    · exact (join_pos m w hu.1 h).mono fun _ _ ⟨he, hb⟩ => ⟨_, _, _, he, hb⟩
    · exact (join_pos_no m w hu (by omega)).mono fun _ _ ⟨a, b, he, hb⟩ => ⟨a, b, _, he, hb⟩
  · by_cases h : m ≤ 170141183460469231731687303715884105727
    · exact (join_neg m w hu.1 h).mono fun _ _ ⟨he, hb⟩ => ⟨_, _, _, he, hb⟩
    · by_cases g : 9223372036854775808 < hi m
      · exact (join_neg_no1 _ _ w g).mono fun _ _ ⟨a, b, he, hb⟩ => ⟨a, b, _, he, hb⟩
      · have e1 : hi m = 9223372036854775808 := by unfold hi at g ⊢; omega
        rw [e1]
        by_cases g2 : lo m = 0
        · rw [g2]; exact (join_low w).mono fun _ _ ⟨he, hb⟩ => ⟨_, _, _, he, hb⟩
        · have := (lo_bd m).1
          exact (join_neg_no2 _ w (by omega)).mono fun _ _ ⟨a, b, he, hb⟩ => ⟨a, b, _, he, hb⟩

theorem rtimes_fit (m n : Int) (w : World) (hm : U128 m) (hn : U64 n) (h : m * n ≤ maxM) :
    Calls Tryd.prog 71 #[.agg #[.int .u64 (hi m), .int .u64 (lo m)], .int .u64 n] w fun e w' => e = .returned (.tuple #[.agg #[.int .u64 (hi (m * n)), .int .u64 (lo (m * n))], .bool true]) ∧ Below w.heap.size w w' :=
  (rtimes_any m n w hm hn).mono fun _ _ ⟨o, _, he, hp, hb⟩ => by
    have := hp h
    subst this
    rw [decide_eq_true h] at he
    exact ⟨he, hb⟩
theorem rtimes_big (m n : Int) (w : World) (hm : U128 m) (hn : U64 n) (h : ¬ m * n ≤ maxM) :
    Calls Tryd.prog 71 #[.agg #[.int .u64 (hi m), .int .u64 (lo m)], .int .u64 n] w (NoMag w) :=
  (rtimes_any m n w hm hn).mono fun _ _ ⟨o, ho, he, _, hb⟩ => by
    rw [decide_eq_false h] at he
    exact ⟨o, ho, he, hb⟩

set_option maxHeartbeats 1000000 in
set_option maxHeartbeats 1000000 in
set_option maxHeartbeats 1000000 in
theorem rscale_yes (x n : Int) (w : World) (hx : I128 x) (hn : I64 n) (hd : ab x * ab n ≤ maxM) (hp : I128 (x * n)) :
    Calls Tryd.prog 36 #[.agg #[.int .i64 (hi x), .int .u64 (lo x)], .int .i64 n] w fun e w' => e = .returned (.tuple #[.agg #[.int .i64 (hi (x * n)), .int .u64 (lo (x * n))], .int .i64 0]) ∧ Below w.heap.size w w' := by
  have HJ := Lib.hid (fun W => join_of (x * n) (decide (x < 0) != decide (n < 0)) W hp (by by_cases h : x * n = 0; exact .inr h; exact .inl (mul_sign x n h).symm))
  have HA := Lib.hid (ab_mul x n)
  have hc := Lib.hid (fun W => rsize_any n W hn)
  have ht0 := (fun W => rtimes_fit (ab x) (ab n) W (ab_u128 hx) (ab_word hn) hd)
  try simp only [ab_mul] at ht0
  have ht := Lib.hid ht0
  clear ht0
  go_enter Tryd.func36, Tryd.ntmps36
  go_wp2_with fail
  refine (rsplit_any x _ hx).mono ?_
  rintro e w1 ⟨rfl, hb1⟩
  generalize decide (x < 0) = sg at *
  obtain ⟨cc, cd, cf, cg⟩ := later2 hb1 (g := w.heap.size) (u := .int .i64 (hi x)) (v := .int .u64 (lo x)) (by simp [go_sem]) (by simp [go_sem]) (by simp [go_sem]) (by simp [go_sem])
  have cz : w.heap.size < w1.heap.size := World.block_lt_of_cell? _ _ cc
  obtain ⟨dc, dd, df, dg⟩ := later2 hb1 (g := w.heap.size + 1) (u := .int .i64 0) (v := .int .u64 0) (by simp [go_sem]) (by simp [go_sem]) (by simp [go_sem]) (by simp [go_sem])
  have dz : w.heap.size + 1 < w1.heap.size := World.block_lt_of_cell? _ _ dc
  have b1 : Below w.heap.size w w1 := bl2 hb1 (by repeat (first | assumption | exact Below.refl _ _ | refine Below.setCell ?_ (by first | exact Nat.le_refl _ | (simp; done) | (simp; omega) | omega) _ | refine Below.alloc ?_ (by first | exact Nat.le_refl _ | (simp; done) | (simp; omega) | omega) _ | refine Below.drew ?_ | exact Nat.le_refl _))
  have z1 := hb1.size
  try simp at z1
  clear hb1
  go_wp2_with fail
  have hb2 : Below (w1).heap.size (w1) ((w1).alloc (.cells #[.int .u64 (hi (ab x)), .int .u64 (lo (ab x))] 71)) := (Below.refl _ _).alloc (Nat.le_refl _) _
  have pc : ((w1).alloc (.cells #[.int .u64 (hi (ab x)), .int .u64 (lo (ab x))] 71)).cell? ⟨(w1).heap.size, 0, none⟩ = some (.int .u64 (hi (ab x))) := by simp [go_sem]
  have pd : ((w1).alloc (.cells #[.int .u64 (hi (ab x)), .int .u64 (lo (ab x))] 71)).cell? ⟨(w1).heap.size, 1, none⟩ = some (.int .u64 (lo (ab x))) := by simp [go_sem]
  have pf : ((w1).alloc (.cells #[.int .u64 (hi (ab x)), .int .u64 (lo (ab x))] 71)).frozen? ⟨(w1).heap.size, 0, none⟩ = false := by simp [go_sem]
  have pg : ((w1).alloc (.cells #[.int .u64 (hi (ab x)), .int .u64 (lo (ab x))] 71)).frozen? ⟨(w1).heap.size, 1, none⟩ = false := by simp [go_sem]
  have pz : (w1).heap.size < ((w1).alloc (.cells #[.int .u64 (hi (ab x)), .int .u64 (lo (ab x))] 71)).heap.size := by simp
  generalize (w1).alloc (.cells #[.int .u64 (hi (ab x)), .int .u64 (lo (ab x))] 71) = w2 at *
  obtain ⟨ec, ed, ef, eg⟩ := later2 hb2 (g := w.heap.size + 1) (u := .int .i64 0) (v := .int .u64 0) (by simp [go_sem, *]) (by simp [go_sem, *]) (by simp [go_sem, *]) (by simp [go_sem, *])
  have ez : w.heap.size + 1 < w2.heap.size := World.block_lt_of_cell? _ _ ec
  have b2 : Below w.heap.size w w2 := bl2 hb2 (by repeat (first | assumption | exact Below.refl _ _ | refine Below.setCell ?_ (by first | exact Nat.le_refl _ | (simp; done) | (simp; omega) | omega) _ | refine Below.alloc ?_ (by first | exact Nat.le_refl _ | (simp; done) | (simp; omega) | omega) _ | refine Below.drew ?_ | exact Nat.le_refl _))
  have z2 := hb2.size
  try simp at z2
  clear hb2
  clear cc cd cf cg dc dd df dg
  go_region_with (first | (go_at_call 72; refine (hc.out _).mono ?_; rintro e w' ⟨rfl, rfl⟩) | (go_at_call 71; refine (ht.out _).mono ?_; rintro e w3 ⟨rfl, hb3⟩; have nc := (fun h => cell_later (a := ⟨w2.heap.size, 0, none⟩) (v := .int .u64 0) hb3 h); have nd := (fun h => cell_later (a := ⟨w2.heap.size, 1, none⟩) (v := .int .u64 0) hb3 h); have nf := (fun h => hb3.frozen (p := ⟨w2.heap.size, 0, none⟩) h); have ng := (fun h => hb3.frozen (p := ⟨w2.heap.size, 1, none⟩) h); have nz := (fun h => Nat.lt_of_lt_of_le (n := w2.heap.size) h hb3.size); (try simp [go_sem] at nc); (try simp [go_sem] at nd); (try simp [go_sem] at nf); (try simp [go_sem] at ng); (try simp at nz); (obtain ⟨fc, fd, ff, fg⟩ := later2 hb3 (g := w.heap.size + 1) (u := .int .i64 0) (v := .int .u64 0) (by simp [go_sem, *]) (by simp [go_sem, *]) (by simp [go_sem, *]) (by simp [go_sem, *])); (have fz : w.heap.size + 1 < w3.heap.size := World.block_lt_of_cell? _ _ fc); (have b3 : Below w.heap.size w w3 := bl2 hb3 (by repeat (first | assumption | exact Below.refl _ _ | refine Below.setCell ?_ (by first | exact Nat.le_refl _ | (simp; done) | (simp; omega) | omega) _ | refine Below.alloc ?_ (by first | exact Nat.le_refl _ | (simp; done) | (simp; omega) | omega) _ | refine Below.drew ?_ | exact Nat.le_refl _))); clear hb3 ec ed ef eg ez pc pd pf pg z2 z1))
  all_goals
    clear ht hc
    go_wp2_with fail
    refine (HJ.out _).mono ?_
    rintro e w4 ⟨rfl, hb4⟩
    obtain ⟨gc, gd, gf, gg⟩ := later2 hb4 (g := w.heap.size + 1) (u := .int .i64 0) (v := .int .u64 0) (by simp [go_sem, *]) (by simp [go_sem, *]) (by simp [go_sem, *]) (by simp [go_sem, *])
    have gz : w.heap.size + 1 < w4.heap.size := World.block_lt_of_cell? _ _ gc
    have b4 : Below w.heap.size w w4 := bl2 hb4 (by repeat (first | assumption | exact Below.refl _ _ | refine Below.setCell ?_ (by first | exact Nat.le_refl _ | (simp; done) | (simp; omega) | omega) _ | refine Below.alloc ?_ (by first | exact Nat.le_refl _ | (simp; done) | (simp; omega) | omega) _ | refine Below.drew ?_ | exact Nat.le_refl _))
    clear hb4 fc fd ff fg
    go_wp2_with fail
    simp [bodyPost, results, Tryd.results36, go_sem, gc, gd, gz]
    exact (by repeat (first | assumption | exact Below.refl _ _ | refine Below.setCell ?_ (by first | exact Nat.le_refl _ | (simp; done) | (simp; omega) | omega) _ | refine Below.alloc ?_ (by first | exact Nat.le_refl _ | (simp; done) | (simp; omega) | omega) _ | refine Below.drew ?_ | exact Nat.le_refl _))

set_option maxHeartbeats 1000000 in
theorem rscale_big (x n : Int) (w : World) (hx : I128 x) (hn : I64 n) (hd : ab x * ab n ≤ maxM) (hp : ¬ I128 (x * n)) :
    Calls Tryd.prog 36 #[.agg #[.int .i64 (hi x), .int .u64 (lo x)], .int .i64 n] w fun e w' => e = .returned (.tuple #[.agg #[.int .i64 0, .int .u64 0], .int .i64 6]) ∧ Below w.heap.size w w' := by
  have HA := Lib.hid (ab_mul x n)
  have HJ := Lib.hid (fun W => join_not (x * n) (decide (x < 0) != decide (n < 0)) W hp (by rw [← ab_mul]; exact ⟨by rw [ab_mul]; unfold ab; split <;> omega, hd⟩) (by by_cases h : x * n = 0; exact absurd (show I128 (x * n) by rw [h]; unfold I128; omega) hp; exact (mul_sign x n h).symm))
  have hc := Lib.hid (fun W => rsize_any n W hn)
  have ht0 := (fun W => rtimes_fit (ab x) (ab n) W (ab_u128 hx) (ab_word hn) hd)
  try simp only [ab_mul] at ht0
  have ht := Lib.hid ht0
  clear ht0
  go_enter Tryd.func36, Tryd.ntmps36
  go_wp2_with fail
  refine (rsplit_any x _ hx).mono ?_
  rintro e w1 ⟨rfl, hb1⟩
  generalize decide (x < 0) = sg at *
  obtain ⟨cc, cd, cf, cg⟩ := later2 hb1 (g := w.heap.size) (u := .int .i64 (hi x)) (v := .int .u64 (lo x)) (by simp [go_sem]) (by simp [go_sem]) (by simp [go_sem]) (by simp [go_sem])
  have cz : w.heap.size < w1.heap.size := World.block_lt_of_cell? _ _ cc
  obtain ⟨dc, dd, df, dg⟩ := later2 hb1 (g := w.heap.size + 1) (u := .int .i64 0) (v := .int .u64 0) (by simp [go_sem]) (by simp [go_sem]) (by simp [go_sem]) (by simp [go_sem])
  have dz : w.heap.size + 1 < w1.heap.size := World.block_lt_of_cell? _ _ dc
  have b1 : Below w.heap.size w w1 := bl2 hb1 (by repeat (first | assumption | exact Below.refl _ _ | refine Below.setCell ?_ (by first | exact Nat.le_refl _ | (simp; done) | (simp; omega) | omega) _ | refine Below.alloc ?_ (by first | exact Nat.le_refl _ | (simp; done) | (simp; omega) | omega) _ | refine Below.drew ?_ | exact Nat.le_refl _))
  have z1 := hb1.size
  try simp at z1
  clear hb1
  go_wp2_with fail
  have hb2 : Below (w1).heap.size (w1) ((w1).alloc (.cells #[.int .u64 (hi (ab x)), .int .u64 (lo (ab x))] 71)) := (Below.refl _ _).alloc (Nat.le_refl _) _
  have pc : ((w1).alloc (.cells #[.int .u64 (hi (ab x)), .int .u64 (lo (ab x))] 71)).cell? ⟨(w1).heap.size, 0, none⟩ = some (.int .u64 (hi (ab x))) := by simp [go_sem]
  have pd : ((w1).alloc (.cells #[.int .u64 (hi (ab x)), .int .u64 (lo (ab x))] 71)).cell? ⟨(w1).heap.size, 1, none⟩ = some (.int .u64 (lo (ab x))) := by simp [go_sem]
  have pf : ((w1).alloc (.cells #[.int .u64 (hi (ab x)), .int .u64 (lo (ab x))] 71)).frozen? ⟨(w1).heap.size, 0, none⟩ = false := by simp [go_sem]
  have pg : ((w1).alloc (.cells #[.int .u64 (hi (ab x)), .int .u64 (lo (ab x))] 71)).frozen? ⟨(w1).heap.size, 1, none⟩ = false := by simp [go_sem]
  have pz : (w1).heap.size < ((w1).alloc (.cells #[.int .u64 (hi (ab x)), .int .u64 (lo (ab x))] 71)).heap.size := by simp
  generalize (w1).alloc (.cells #[.int .u64 (hi (ab x)), .int .u64 (lo (ab x))] 71) = w2 at *
  obtain ⟨ec, ed, ef, eg⟩ := later2 hb2 (g := w.heap.size + 1) (u := .int .i64 0) (v := .int .u64 0) (by simp [go_sem, *]) (by simp [go_sem, *]) (by simp [go_sem, *]) (by simp [go_sem, *])
  have ez : w.heap.size + 1 < w2.heap.size := World.block_lt_of_cell? _ _ ec
  have b2 : Below w.heap.size w w2 := bl2 hb2 (by repeat (first | assumption | exact Below.refl _ _ | refine Below.setCell ?_ (by first | exact Nat.le_refl _ | (simp; done) | (simp; omega) | omega) _ | refine Below.alloc ?_ (by first | exact Nat.le_refl _ | (simp; done) | (simp; omega) | omega) _ | refine Below.drew ?_ | exact Nat.le_refl _))
  have z2 := hb2.size
  try simp at z2
  clear hb2
  clear cc cd cf cg dc dd df dg
  go_region_with (first | (go_at_call 72; refine (hc.out _).mono ?_; rintro e w' ⟨rfl, rfl⟩) | (go_at_call 71; refine (ht.out _).mono ?_; rintro e w3 ⟨rfl, hb3⟩; have nc := (fun h => cell_later (a := ⟨w2.heap.size, 0, none⟩) (v := .int .u64 0) hb3 h); have nd := (fun h => cell_later (a := ⟨w2.heap.size, 1, none⟩) (v := .int .u64 0) hb3 h); have nf := (fun h => hb3.frozen (p := ⟨w2.heap.size, 0, none⟩) h); have ng := (fun h => hb3.frozen (p := ⟨w2.heap.size, 1, none⟩) h); have nz := (fun h => Nat.lt_of_lt_of_le (n := w2.heap.size) h hb3.size); (try simp [go_sem] at nc); (try simp [go_sem] at nd); (try simp [go_sem] at nf); (try simp [go_sem] at ng); (try simp at nz); (obtain ⟨fc, fd, ff, fg⟩ := later2 hb3 (g := w.heap.size + 1) (u := .int .i64 0) (v := .int .u64 0) (by simp [go_sem, *]) (by simp [go_sem, *]) (by simp [go_sem, *]) (by simp [go_sem, *])); (have fz : w.heap.size + 1 < w3.heap.size := World.block_lt_of_cell? _ _ fc); (have b3 : Below w.heap.size w w3 := bl2 hb3 (by repeat (first | assumption | exact Below.refl _ _ | refine Below.setCell ?_ (by first | exact Nat.le_refl _ | (simp; done) | (simp; omega) | omega) _ | refine Below.alloc ?_ (by first | exact Nat.le_refl _ | (simp; done) | (simp; omega) | omega) _ | refine Below.drew ?_ | exact Nat.le_refl _))); clear hb3 ec ed ef eg ez pc pd pf pg z2 z1))
  all_goals
    clear ht hc
    go_wp2_with fail
    refine (HJ.out _).mono ?_
    rintro e w4 ⟨ja, jb, rfl, hb4⟩
    obtain ⟨gc, gd, gf, gg⟩ := later2 hb4 (g := w.heap.size + 1) (u := .int .i64 0) (v := .int .u64 0) (by simp [go_sem, *]) (by simp [go_sem, *]) (by simp [go_sem, *]) (by simp [go_sem, *])
    have gz : w.heap.size + 1 < w4.heap.size := World.block_lt_of_cell? _ _ gc
    have b4 : Below w.heap.size w w4 := bl2 hb4 (by repeat (first | assumption | exact Below.refl _ _ | refine Below.setCell ?_ (by first | exact Nat.le_refl _ | (simp; done) | (simp; omega) | omega) _ | refine Below.alloc ?_ (by first | exact Nat.le_refl _ | (simp; done) | (simp; omega) | omega) _ | refine Below.drew ?_ | exact Nat.le_refl _))
    clear hb4 fc fd ff fg
    go_wp2_with fail
    simp [bodyPost, results, Tryd.results36, go_sem, gc, gd, gz]
    exact (by repeat (first | assumption | exact Below.refl _ _ | refine Below.setCell ?_ (by first | exact Nat.le_refl _ | (simp; done) | (simp; omega) | omega) _ | refine Below.alloc ?_ (by first | exact Nat.le_refl _ | (simp; done) | (simp; omega) | omega) _ | refine Below.drew ?_ | exact Nat.le_refl _))

set_option maxHeartbeats 1000000 in
theorem rscale_over (x n : Int) (w : World) (hx : I128 x) (hn : I64 n) (hd : ¬ ab x * ab n ≤ maxM) :
    Calls Tryd.prog 36 #[.agg #[.int .i64 (hi x), .int .u64 (lo x)], .int .i64 n] w fun e w' => e = .returned (.tuple #[.agg #[.int .i64 0, .int .u64 0], .int .i64 6]) ∧ Below w.heap.size w w' := by
  have hc := Lib.hid (fun W => rsize_any n W hn)
  have ht0 := (fun W => rtimes_big (ab x) (ab n) W (ab_u128 hx) (ab_word hn) hd)
  try simp only [ab_mul] at ht0
  have ht := Lib.hid ht0
  clear ht0
  go_enter Tryd.func36, Tryd.ntmps36
  go_wp2_with fail
  refine (rsplit_any x _ hx).mono ?_
  rintro e w1 ⟨rfl, hb1⟩
  generalize decide (x < 0) = sg at *
  obtain ⟨cc, cd, cf, cg⟩ := later2 hb1 (g := w.heap.size) (u := .int .i64 (hi x)) (v := .int .u64 (lo x)) (by simp [go_sem]) (by simp [go_sem]) (by simp [go_sem]) (by simp [go_sem])
  have cz : w.heap.size < w1.heap.size := World.block_lt_of_cell? _ _ cc
  obtain ⟨dc, dd, df, dg⟩ := later2 hb1 (g := w.heap.size + 1) (u := .int .i64 0) (v := .int .u64 0) (by simp [go_sem]) (by simp [go_sem]) (by simp [go_sem]) (by simp [go_sem])
  have dz : w.heap.size + 1 < w1.heap.size := World.block_lt_of_cell? _ _ dc
  have b1 : Below w.heap.size w w1 := bl2 hb1 (by repeat (first | assumption | exact Below.refl _ _ | refine Below.setCell ?_ (by first | exact Nat.le_refl _ | (simp; done) | (simp; omega) | omega) _ | refine Below.alloc ?_ (by first | exact Nat.le_refl _ | (simp; done) | (simp; omega) | omega) _ | refine Below.drew ?_ | exact Nat.le_refl _))
  have z1 := hb1.size
  try simp at z1
  clear hb1
  go_wp2_with fail
  have hb2 : Below (w1).heap.size (w1) ((w1).alloc (.cells #[.int .u64 (hi (ab x)), .int .u64 (lo (ab x))] 71)) := (Below.refl _ _).alloc (Nat.le_refl _) _
  have pc : ((w1).alloc (.cells #[.int .u64 (hi (ab x)), .int .u64 (lo (ab x))] 71)).cell? ⟨(w1).heap.size, 0, none⟩ = some (.int .u64 (hi (ab x))) := by simp [go_sem]
  have pd : ((w1).alloc (.cells #[.int .u64 (hi (ab x)), .int .u64 (lo (ab x))] 71)).cell? ⟨(w1).heap.size, 1, none⟩ = some (.int .u64 (lo (ab x))) := by simp [go_sem]
  have pf : ((w1).alloc (.cells #[.int .u64 (hi (ab x)), .int .u64 (lo (ab x))] 71)).frozen? ⟨(w1).heap.size, 0, none⟩ = false := by simp [go_sem]
  have pg : ((w1).alloc (.cells #[.int .u64 (hi (ab x)), .int .u64 (lo (ab x))] 71)).frozen? ⟨(w1).heap.size, 1, none⟩ = false := by simp [go_sem]
  have pz : (w1).heap.size < ((w1).alloc (.cells #[.int .u64 (hi (ab x)), .int .u64 (lo (ab x))] 71)).heap.size := by simp
  generalize (w1).alloc (.cells #[.int .u64 (hi (ab x)), .int .u64 (lo (ab x))] 71) = w2 at *
  obtain ⟨ec, ed, ef, eg⟩ := later2 hb2 (g := w.heap.size + 1) (u := .int .i64 0) (v := .int .u64 0) (by simp [go_sem, *]) (by simp [go_sem, *]) (by simp [go_sem, *]) (by simp [go_sem, *])
  have ez : w.heap.size + 1 < w2.heap.size := World.block_lt_of_cell? _ _ ec
  have b2 : Below w.heap.size w w2 := bl2 hb2 (by repeat (first | assumption | exact Below.refl _ _ | refine Below.setCell ?_ (by first | exact Nat.le_refl _ | (simp; done) | (simp; omega) | omega) _ | refine Below.alloc ?_ (by first | exact Nat.le_refl _ | (simp; done) | (simp; omega) | omega) _ | refine Below.drew ?_ | exact Nat.le_refl _))
  have z2 := hb2.size
  try simp at z2
  clear hb2
  clear cc cd cf cg dc dd df dg
  go_region_with (first | (go_at_call 72; refine (hc.out _).mono ?_; rintro e w' ⟨rfl, rfl⟩) | (go_at_call 71; refine (ht.out _).mono ?_; rintro e w3 ⟨o, ho, rfl, hb3⟩; have nc := (fun h => cell_later (a := ⟨w2.heap.size, 0, none⟩) (v := .int .u64 0) hb3 h); have nd := (fun h => cell_later (a := ⟨w2.heap.size, 1, none⟩) (v := .int .u64 0) hb3 h); have nf := (fun h => hb3.frozen (p := ⟨w2.heap.size, 0, none⟩) h); have ng := (fun h => hb3.frozen (p := ⟨w2.heap.size, 1, none⟩) h); have nz := (fun h => Nat.lt_of_lt_of_le (n := w2.heap.size) h hb3.size); (try simp [go_sem] at nc); (try simp [go_sem] at nd); (try simp [go_sem] at nf); (try simp [go_sem] at ng); (try simp at nz); (obtain ⟨fc, fd, ff, fg⟩ := later2 hb3 (g := w.heap.size + 1) (u := .int .i64 0) (v := .int .u64 0) (by simp [go_sem, *]) (by simp [go_sem, *]) (by simp [go_sem, *]) (by simp [go_sem, *])); (have fz : w.heap.size + 1 < w3.heap.size := World.block_lt_of_cell? _ _ fc); (have b3 : Below w.heap.size w w3 := bl2 hb3 (by repeat (first | assumption | exact Below.refl _ _ | refine Below.setCell ?_ (by first | exact Nat.le_refl _ | (simp; done) | (simp; omega) | omega) _ | refine Below.alloc ?_ (by first | exact Nat.le_refl _ | (simp; done) | (simp; omega) | omega) _ | refine Below.drew ?_ | exact Nat.le_refl _))); clear hb3 ec ed ef eg ez pc pd pf pg z2 z1))
  all_goals
    clear ht hc
    go_wp2_with fail
    refine (join_some o _ _ ho).mono ?_
    rintro e w4 ⟨ja, jb, jf, rfl, hb4⟩
    obtain ⟨gc, gd, gf, gg⟩ := later2 hb4 (g := w.heap.size + 1) (u := .int .i64 0) (v := .int .u64 0) (by simp [go_sem, *]) (by simp [go_sem, *]) (by simp [go_sem, *]) (by simp [go_sem, *])
    have gz : w.heap.size + 1 < w4.heap.size := World.block_lt_of_cell? _ _ gc
    have b4 : Below w.heap.size w w4 := bl2 hb4 (by repeat (first | assumption | exact Below.refl _ _ | refine Below.setCell ?_ (by first | exact Nat.le_refl _ | (simp; done) | (simp; omega) | omega) _ | refine Below.alloc ?_ (by first | exact Nat.le_refl _ | (simp; done) | (simp; omega) | omega) _ | refine Below.drew ?_ | exact Nat.le_refl _))
    clear hb4 fc fd ff fg
    go_wp2_with fail
    simp [bodyPost, results, Tryd.results36, go_sem, gc, gd, gz]
    exact (by repeat (first | assumption | exact Below.refl _ _ | refine Below.setCell ?_ (by first | exact Nat.le_refl _ | (simp; done) | (simp; omega) | omega) _ | refine Below.alloc ?_ (by first | exact Nat.le_refl _ | (simp; done) | (simp; omega) | omega) _ | refine Below.drew ?_ | exact Nat.le_refl _))

/-- The reference's Scale returns the product and OK, or zero and the error. -/
theorem rscale_any (x n : Int) (w : World) (hx : I128 x) (hn : I64 n) :
    Calls Tryd.prog 36 #[.agg #[.int .i64 (hi x), .int .u64 (lo x)], .int .i64 n] w fun e w' => e = .returned (.tuple #[.agg #[.int .i64 (hi (fit (x * n))), .int .u64 (lo (fit (x * n)))], .int .i64 (ovf (x * n))]) ∧ Below w.heap.size w w' := by
  by_cases hd : ab x * ab n ≤ maxM
  · by_cases hp : I128 (x * n)
    · rw [fit_in hp, ovf_in hp]; exact rscale_yes x n w hx hn hd hp
    · rw [fit_out hp, ovf_out hp, hi_0, lo_0]; exact rscale_big x n w hx hn hd hp
  · have hp : ¬ I128 (x * n) := by
      rw [ab_mul] at hd; unfold maxM at hd; intro h; unfold I128 at h; revert hd; unfold ab; split <;> omega
    rw [fit_out hp, ovf_out hp, hi_0, lo_0]; exact rscale_over x n w hx hn hd
end Go.Proofs.YtjmgahdjojdanaaDoor.Wt
