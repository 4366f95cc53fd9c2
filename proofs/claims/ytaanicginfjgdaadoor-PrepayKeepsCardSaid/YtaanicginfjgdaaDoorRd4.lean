/-
  The contracts of Amount, Percent and Step, of package rounding and of the reference.
-/
import Derived.Test.YtaanicginfjgdaaDoorRd3
import Derived.Test.YtaanicginfjgdaaDoorRf
namespace Go.Proofs.YtaanicginfjgdaaDoor.Rd
open Go.RowKit
open Go.Proofs.YtaanicginfjgdaaDoor
open Go.Proofs.YtaanicginfjgdaaDoor.Wm Go.Proofs.YtaanicginfjgdaaDoor.Wt

/-- An amount is valid. -/
def gd (a : Int) : Prop := -1000000000000 ≤ a ∧ a ≤ 1000000000000
instance (a : Int) : Decidable (gd a) := by unfold gd; exact inferInstance
theorem rd_near {x n mode : Int} (hn : 1 ≤ n) : -n < x - rd x n mode * n ∧ x - rd x n mode * n < n := by
  have h1 := Int.mul_ediv_add_emod x n
  have h2 := Int.emod_lt_of_pos x (show 0 < n by omega)
  have h3 := Int.emod_nonneg x (show n ≠ 0 by omega)
  rw [Int.mul_comm] at h1
  by_cases hr : 0 < x % n
  · rw [rd_step hr]
    have h4 := moreI_bd (decide (x < 0)) (decide (x / n % 2 = 1)) (x % n) n mode
    generalize moreI (decide (x < 0)) (decide (x / n % 2 = 1)) (x % n) n mode = m at *
    rw [Int.add_mul]
    have : m = 0 ∨ m = 1 := by omega
    rcases this with rfl | rfl <;> omega
  · rw [rd_exact hr]
    omega
/-- Amount's results. -/
def amE (g m : Int) : Int := if rdE g 1603080000000 m ≠ 0 then rdE g 1603080000000 m else if gd (rdV g 1603080000000 m) then 0 else 6
def amV (g m : Int) : Int := if amE g m = 0 then rdV g 1603080000000 m else 0
def amR (g m : Int) : Int := if amE g m = 0 then g - rdV g 1603080000000 m * 1603080000000 else 0
theorem am_bad {g m : Int} (h : rdE g 1603080000000 m ≠ 0) : amE g m = rdE g 1603080000000 m ∧ amV g m = 0 ∧ amR g m = 0 := by
  have e : amE g m = rdE g 1603080000000 m := if_pos h
  exact ⟨e, if_neg (by rw [e]; exact h), if_neg (by rw [e]; exact h)⟩
theorem am_over {g m : Int} (h : rdE g 1603080000000 m = 0) (hg : ¬ gd (rdV g 1603080000000 m)) : amE g m = 6 ∧ amV g m = 0 ∧ amR g m = 0 := by
  have e : amE g m = 6 := by unfold amE; rw [if_neg (by rw [h]; simp), if_neg hg]
  exact ⟨e, if_neg (by rw [e]; simp), if_neg (by rw [e]; simp)⟩
theorem am_ok {g m : Int} (h : rdE g 1603080000000 m = 0) (hg : gd (rdV g 1603080000000 m)) : amE g m = 0 ∧ amV g m = rdV g 1603080000000 m ∧ amR g m = g - rdV g 1603080000000 m * 1603080000000 := by
  have e : amE g m = 0 := by unfold amE; rw [if_neg (by rw [h]; simp), if_pos hg]
  exact ⟨e, if_pos e, if_pos e⟩
theorem rdE_0 {x n m : Int} (h : rdE x n m = 0) : rok n m ∧ rdV x n m = rd x n m ∧ I64 (rd x n m) := by
  by_cases hk : rok n m
  · rw [(rd_yes hk).2] at h
    have hi : iin (rd x n m) = true := by
      cases hv : iin (rd x n m)
      · rw [hv] at h; simp at h
      · rfl
    have hi' : I64 (rd x n m) := of_decide_eq_true hi
    exact ⟨hk, by rw [(rd_yes hk).1]; exact if_pos hi', hi'⟩
  · rw [(rd_no hk).2] at h; omega
theorem am_bd {g m : Int} (h : rdE g 1603080000000 m = 0) : -1603080000000 < g - rdV g 1603080000000 m * 1603080000000 ∧ g - rdV g 1603080000000 m * 1603080000000 < 1603080000000 := by
  obtain ⟨_, e, _⟩ := rdE_0 h
  rw [e]
  exact rd_near (by omega)
theorem rdV_i64 (x n m : Int) : I64 (rdV x n m) := by
  unfold rdV
  split
  · unfold ifit
    split
    · assumption
    · unfold I64; omega
  · unfold I64; omega
/-- What Amount returns. -/
def APost (g m : Int) (w : World) (e : Ending) (w' : World) : Prop := e = .returned (.tuple #[.int .i64 (amV g m), .agg #[.int .i64 (hi (amR g m)), .int .u64 (lo (amR g m))], .int .i64 (amE g m)]) ∧ Below w.heap.size w w'
theorem apost {g m v r c : Int} {w w' : World} (h : amE g m = c ∧ amV g m = v ∧ amR g m = r) (hb : Below w.heap.size w w') : APost g m w (.returned (.tuple #[.int .i64 v, .agg #[.int .i64 (hi r), .int .u64 (lo r)], .int .i64 c])) w' := by
  unfold APost; rw [h.1, h.2.1, h.2.2]; exact ⟨rfl, hb⟩
theorem apost0 {g m c : Int} {w w' : World} (h : amE g m = c ∧ amV g m = 0 ∧ amR g m = 0) (hb : Below w.heap.size w w') : APost g m w (.returned (.tuple #[.int .i64 0, .agg #[.int .i64 0, .int .u64 0], .int .i64 c])) w' := by
  have := apost h hb
  rw [hi_0, lo_0] at this
  exact this
/-- A rounded part. -/
noncomputable def pcV (a p m : Int) : Int := if gd a ∧ 0 ≤ p ∧ p ≤ 1000000 then rdV (a * p) 1000000 m else 0
noncomputable def pcE (a p m : Int) : Int := if gd a ∧ 0 ≤ p ∧ p ≤ 1000000 then rdE (a * p) 1000000 m else 1
def PPost (a p m : Int) (w : World) (e : Ending) (w' : World) : Prop := e = .returned (.tuple #[.int .i64 (pcV a p m), .int .i64 (pcE a p m)]) ∧ Below w.heap.size w w'
theorem ppost_no {a p m : Int} {w w' : World} (h : ¬ (gd a ∧ 0 ≤ p ∧ p ≤ 1000000) ∨ ¬ (1 ≤ m ∧ m ≤ 6)) (hb : Below w.heap.size w w') : PPost a p m w (.returned (.tuple #[.int .i64 0, .int .i64 1])) w' := by
  unfold PPost pcV pcE
  rcases h with h | h
  · rw [if_neg h, if_neg h]; exact ⟨rfl, hb⟩
  · have hk : ¬ rok 1000000 m := fun hk => h hk.2
    rw [(rd_no (x := a * p) hk).1, (rd_no (x := a * p) hk).2]
    split <;> exact ⟨rfl, hb⟩
theorem ppost_yes {a p m : Int} {w w' : World} (h : gd a ∧ 0 ≤ p ∧ p ≤ 1000000) (hb : Below w.heap.size w w') : PPost a p m w (.returned (.tuple #[.int .i64 (rdV (a * p) 1000000 m), .int .i64 (rdE (a * p) 1000000 m)])) w' := by
  unfold PPost pcV pcE
  rw [if_pos h, if_pos h]; exact ⟨rfl, hb⟩
/-- A rounded multiple. -/
def stOk (a s m : Int) : Prop := gd a ∧ 1 ≤ s ∧ s ≤ 1000000000000 ∧ 1 ≤ m ∧ m ≤ 6
instance (a s m : Int) : Decidable (stOk a s m) := by unfold stOk; exact inferInstance
def stE (a s m : Int) : Int := if stOk a s m then (if gd (rd a s m * s) then 0 else 6) else 1
def stV (a s m : Int) : Int := if stE a s m = 0 then rd a s m * s else 0
def SPost (a s m : Int) (w : World) (e : Ending) (w' : World) : Prop := e = .returned (.tuple #[.int .i64 (stV a s m), .int .i64 (stE a s m)]) ∧ Below w.heap.size w w'
theorem spost_no {a s m : Int} {w w' : World} (h : ¬ stOk a s m) (hb : Below w.heap.size w w') : SPost a s m w (.returned (.tuple #[.int .i64 0, .int .i64 1])) w' := by
  have e : stE a s m = 1 := if_neg h
  unfold SPost stV
  rw [e]; exact ⟨rfl, hb⟩
theorem spost_over {a s m : Int} {w w' : World} (h : stOk a s m) (hg : ¬ gd (rd a s m * s)) (hb : Below w.heap.size w w') : SPost a s m w (.returned (.tuple #[.int .i64 0, .int .i64 6])) w' := by
  have e : stE a s m = 6 := by unfold stE; rw [if_pos h, if_neg hg]
  unfold SPost stV
  rw [e]; exact ⟨rfl, hb⟩
theorem spost_ok {a s m : Int} {w w' : World} (h : stOk a s m) (hg : gd (rd a s m * s)) (hb : Below w.heap.size w w') : SPost a s m w (.returned (.tuple #[.int .i64 (rd a s m * s), .int .i64 0])) w' := by
  have e : stE a s m = 0 := by unfold stE; rw [if_pos h, if_pos hg]
  unfold SPost stV
  rw [e]; exact ⟨rfl, hb⟩
theorem st_bd {a s m : Int} (h : stOk a s m) : -2000000000000 ≤ rd a s m * s ∧ rd a s m * s ≤ 2000000000000 ∧ -1000000000001 ≤ rd a s m ∧ rd a s m ≤ 1000000000001 := by
  obtain ⟨⟨a1, a2⟩, s1, s2, _, _⟩ := h
  have h1 := rd_near (x := a) (n := s) (mode := m) s1
  have h2 : -1000000000001 ≤ rd a s m := by
    rcases Classical.em (-1000000000001 ≤ rd a s m) with h | h
    · exact h
    · have : rd a s m * s ≤ -1000000000002 * s := Int.mul_le_mul_of_nonneg_right (by omega) (by omega)
      omega
  have h3 : rd a s m ≤ 1000000000001 := by
    rcases Classical.em (rd a s m ≤ 1000000000001) with h | h
    · exact h
    · have : 1000000000002 * s ≤ rd a s m * s := Int.mul_le_mul_of_nonneg_right (by omega) (by omega)
      omega
  omega
theorem st_fit {a s m : Int} (h : stOk a s m) : rdV a s m = rd a s m ∧ rdE a s m = 0 := by
  have hb := st_bd h
  have hk : rok s m := ⟨h.2.1, h.2.2.2⟩
  have hi : I64 (rd a s m) := by unfold I64; omega
  rw [(rd_yes hk).1, (rd_yes hk).2]
  exact ⟨if_pos hi, by rw [show iin (rd a s m) = true from decide_eq_true hi]; rfl⟩

theorem good_yes (a : Int) (w : World) (h : gd a) : Calls Tryd.prog 55 #[.int .i64 a] w fun e w' => e = .returned (.bool true) ∧ w = w' := by
  obtain ⟨h1, h2⟩ := h
  go_enter Tryd.func55, Tryd.ntmps55
  go_wp2_with fail
  go_ret
  exact ⟨by simp, rfl⟩
theorem good_no (a : Int) (w : World) (h : ¬ gd a) : Calls Tryd.prog 55 #[.int .i64 a] w fun e w' => e = .returned (.bool false) ∧ w = w' := by
  unfold gd at h
  by_cases h1 : a < -1000000000000
  · clear h
    go_enter Tryd.func55, Tryd.ntmps55
    go_wp2_with fail
    go_ret
    exact ⟨by simp, rfl⟩
  · have h2 : -1000000000000 ≤ a := by omega
    have h3 : 1000000000000 < a := by omega
    clear h h1
    go_enter Tryd.func55, Tryd.ntmps55
    go_wp2_with fail
    go_ret
    exact ⟨by simpa using h3, rfl⟩

theorem rgood_yes (a : Int) (w : World) (h : gd a) : Calls Tryd.prog 18 #[.int .i64 a] w fun e w' => e = .returned (.bool true) ∧ w = w' := by
  obtain ⟨h1, h2⟩ := h
  go_enter Tryd.func18, Tryd.ntmps18
  go_wp2_with fail
  go_ret
  exact ⟨by simp, rfl⟩
theorem rgood_no (a : Int) (w : World) (h : ¬ gd a) : Calls Tryd.prog 18 #[.int .i64 a] w fun e w' => e = .returned (.bool false) ∧ w = w' := by
  unfold gd at h
  by_cases h1 : a < -1000000000000
  · clear h
    go_enter Tryd.func18, Tryd.ntmps18
    go_wp2_with fail
    go_ret
    exact ⟨by simp, rfl⟩
  · have h2 : -1000000000000 ≤ a := by omega
    have h3 : 1000000000000 < a := by omega
    clear h h1
    go_enter Tryd.func18, Tryd.ntmps18
    go_wp2_with fail
    go_ret
    exact ⟨by simpa using h3, rfl⟩

set_option maxHeartbeats 4000000 in
theorem percent_any (a p m : Int) (w : World) (hS : Stp w) (ha : I64 a) (hp : I64 p) : Calls Tryd.prog 39 #[.int .i64 a, .int .i64 p, .int .i64 m] w (PPost a p m w) := by
  have b0 := Below.refl w.heap.size w
  by_cases hg : gd a
  · have HG := Lib.hid hg
    by_cases p0 : 0 ≤ p
    · by_cases p1 : p ≤ 1000000
      · have HY := Lib.hid (show gd a ∧ 0 ≤ p ∧ p ≤ 1000000 from ⟨hg, p0, p1⟩)
        have hd := fun (W : World) (hS : Stp W) => rd_any (a * p) 1000000 m W hS (mul_bd ha hp).1 (by unfold I64; omega)
        unfold DPost at hd
        have HD := Lib.hid hd
        have HM := Lib.hid (fun W => mul_any a p W ha hp)
        clear hd hg
        generalize hz : a * p = z at HM HD
        have HZ := Lib.hid hz
        clear hz
        by_cases hm : 1 ≤ m ∧ m ≤ 6
        · obtain ⟨m1, m6⟩ := hm
          go_enter Tryd.func39, Tryd.ntmps39
          go_wp2_with fail
          refine (good_yes _ _ HG.out).mono ?_
          rintro e w' ⟨rfl, rfl⟩
          go_wp2_with fail
          refine (valid_yes _ _ m1 m6).mono ?_
          rintro e w' ⟨rfl, rfl⟩
          go_wp2_with fail
          refine (HM.out _).mono ?_
          rintro e w1 ⟨rfl, hb1⟩
          have b1 : Below w.heap.size w w1 := bl2 hb1 (by repeat (first | assumption | exact Below.refl _ _ | refine Below.setCell ?_ (by first | exact Nat.le_refl _ | (simp; done) | (simp; omega) | omega) _ | refine Below.alloc ?_ (by first | exact Nat.le_refl _ | (simp; done) | (simp; omega) | omega) _ | refine Below.drew ?_ | exact Nat.le_refl _))
          have z1 := b1.size
          repeat (rename Bk.Blk w _ _ _ => hq; (first | (have hq' := Bk.Blk.carry hq hb1 (by (repeat (first | with_reducible refine Bk.Blk.drew ?_ | with_reducible refine Bk.Blk.set_same ?_ | with_reducible refine Bk.Blk.set_ne ?_ (by omega) | with_reducible refine Bk.Blk.alloc ?_)); (with_reducible exact hq))) | (have hq' := Bk.Blk.later hb1 (Bk.Blk.set2 hq)) | skip); clear hq)
          try (have hn := Bk.Blk.later (g := (w).heap.size) hb1 (by first | with_reducible exact Bk.Blk.nw10 | with_reducible exact Bk.Blk.nw20 | with_reducible exact Bk.Blk.nw21 | with_reducible exact Bk.Blk.nw30 | with_reducible exact Bk.Blk.nw31 | with_reducible exact Bk.Blk.nw32 | with_reducible exact Bk.Blk.nw40 | with_reducible exact Bk.Blk.nw41 | with_reducible exact Bk.Blk.nw42 | with_reducible exact Bk.Blk.nw43))
          try (have hn := Bk.Blk.later (g := (w).heap.size + 1) hb1 (by first | with_reducible exact Bk.Blk.nw10 | with_reducible exact Bk.Blk.nw20 | with_reducible exact Bk.Blk.nw21 | with_reducible exact Bk.Blk.nw30 | with_reducible exact Bk.Blk.nw31 | with_reducible exact Bk.Blk.nw32 | with_reducible exact Bk.Blk.nw40 | with_reducible exact Bk.Blk.nw41 | with_reducible exact Bk.Blk.nw42 | with_reducible exact Bk.Blk.nw43))
          try (have hn := Bk.Blk.later (g := (w).heap.size + 2) hb1 (by first | with_reducible exact Bk.Blk.nw10 | with_reducible exact Bk.Blk.nw20 | with_reducible exact Bk.Blk.nw21 | with_reducible exact Bk.Blk.nw30 | with_reducible exact Bk.Blk.nw31 | with_reducible exact Bk.Blk.nw32 | with_reducible exact Bk.Blk.nw40 | with_reducible exact Bk.Blk.nw41 | with_reducible exact Bk.Blk.nw42 | with_reducible exact Bk.Blk.nw43))
          try (have hn := Bk.Blk.later (g := (w).heap.size + 3) hb1 (by first | with_reducible exact Bk.Blk.nw10 | with_reducible exact Bk.Blk.nw20 | with_reducible exact Bk.Blk.nw21 | with_reducible exact Bk.Blk.nw30 | with_reducible exact Bk.Blk.nw31 | with_reducible exact Bk.Blk.nw32 | with_reducible exact Bk.Blk.nw40 | with_reducible exact Bk.Blk.nw41 | with_reducible exact Bk.Blk.nw42 | with_reducible exact Bk.Blk.nw43))
          clear hb1
          repeat (rename World.cell? w _ = _ => hq; clear hq)
          repeat (rename World.frozen? w _ = _ => hq; clear hq)
          repeat (rename Bk.Blk w1 _ _ _ => hq; (first | (have _k0 := (hq).c0; have _m0 := (hq).f0) | skip); (first | (have _k1 := (hq).c1; have _m1 := (hq).f1) | skip); (first | (have _k2 := (hq).c2; have _m2 := (hq).f2) | skip); (first | (have _k3 := (hq).c3; have _m3 := (hq).f3) | skip); have _z := (hq).lt; have hk := Bk.Kept.mk hq; clear hq)
          repeat (rename Bk.Kept (Bk.Blk w1 _ _ _) => hq; have hq' := hq.out; clear hq)
          go_wp2_with fail
          refine (HD.out _ (hS.of (by repeat (first | assumption | exact Below.refl _ _ | refine Below.setCell ?_ (by first | exact Nat.le_refl _ | (simp; done) | (simp; omega) | omega) _ | refine Below.alloc ?_ (by first | exact Nat.le_refl _ | (simp; done) | (simp; omega) | omega) _ | refine Below.drew ?_ | exact Nat.le_refl _)))).mono ?_
          rintro e w2 ⟨rfl, hb2⟩
          have b2 : Below w.heap.size w w2 := bl2 hb2 (by repeat (first | assumption | exact Below.refl _ _ | refine Below.setCell ?_ (by first | exact Nat.le_refl _ | (simp; done) | (simp; omega) | omega) _ | refine Below.alloc ?_ (by first | exact Nat.le_refl _ | (simp; done) | (simp; omega) | omega) _ | refine Below.drew ?_ | exact Nat.le_refl _))
          have z2 := b2.size
          repeat (rename Bk.Blk w1 _ _ _ => hq; (first | (have hq' := Bk.Blk.carry hq hb2 (by (repeat (first | with_reducible refine Bk.Blk.drew ?_ | with_reducible refine Bk.Blk.set_same ?_ | with_reducible refine Bk.Blk.set_ne ?_ (by omega) | with_reducible refine Bk.Blk.alloc ?_)); (with_reducible exact hq))) | (have hq' := Bk.Blk.later hb2 (Bk.Blk.set2 hq)) | skip); clear hq)
          try (have hn := Bk.Blk.later (g := (w1).heap.size) hb2 (by first | with_reducible exact Bk.Blk.nw10 | with_reducible exact Bk.Blk.nw20 | with_reducible exact Bk.Blk.nw21 | with_reducible exact Bk.Blk.nw30 | with_reducible exact Bk.Blk.nw31 | with_reducible exact Bk.Blk.nw32 | with_reducible exact Bk.Blk.nw40 | with_reducible exact Bk.Blk.nw41 | with_reducible exact Bk.Blk.nw42 | with_reducible exact Bk.Blk.nw43))
          try (have hn := Bk.Blk.later (g := (w1).heap.size + 1) hb2 (by first | with_reducible exact Bk.Blk.nw10 | with_reducible exact Bk.Blk.nw20 | with_reducible exact Bk.Blk.nw21 | with_reducible exact Bk.Blk.nw30 | with_reducible exact Bk.Blk.nw31 | with_reducible exact Bk.Blk.nw32 | with_reducible exact Bk.Blk.nw40 | with_reducible exact Bk.Blk.nw41 | with_reducible exact Bk.Blk.nw42 | with_reducible exact Bk.Blk.nw43))
          try (have hn := Bk.Blk.later (g := (w1).heap.size + 2) hb2 (by first | with_reducible exact Bk.Blk.nw10 | with_reducible exact Bk.Blk.nw20 | with_reducible exact Bk.Blk.nw21 | with_reducible exact Bk.Blk.nw30 | with_reducible exact Bk.Blk.nw31 | with_reducible exact Bk.Blk.nw32 | with_reducible exact Bk.Blk.nw40 | with_reducible exact Bk.Blk.nw41 | with_reducible exact Bk.Blk.nw42 | with_reducible exact Bk.Blk.nw43))
          try (have hn := Bk.Blk.later (g := (w1).heap.size + 3) hb2 (by first | with_reducible exact Bk.Blk.nw10 | with_reducible exact Bk.Blk.nw20 | with_reducible exact Bk.Blk.nw21 | with_reducible exact Bk.Blk.nw30 | with_reducible exact Bk.Blk.nw31 | with_reducible exact Bk.Blk.nw32 | with_reducible exact Bk.Blk.nw40 | with_reducible exact Bk.Blk.nw41 | with_reducible exact Bk.Blk.nw42 | with_reducible exact Bk.Blk.nw43))
          clear hb2
          repeat (rename World.cell? w1 _ = _ => hq; clear hq)
          repeat (rename World.frozen? w1 _ = _ => hq; clear hq)
          repeat (rename Bk.Blk w2 _ _ _ => hq; (first | (have _k0 := (hq).c0; have _m0 := (hq).f0) | skip); (first | (have _k1 := (hq).c1; have _m1 := (hq).f1) | skip); (first | (have _k2 := (hq).c2; have _m2 := (hq).f2) | skip); (first | (have _k3 := (hq).c3; have _m3 := (hq).f3) | skip); have _z := (hq).lt; have hk := Bk.Kept.mk hq; clear hq)
          repeat (rename Bk.Kept (Bk.Blk w2 _ _ _) => hq; have hq' := hq.out; clear hq)
          go_wp2_with fail
          go_ret2
          rw [← HZ.out]
          exact ppost_yes HY.out (by repeat (first | assumption | exact Below.refl _ _ | refine Below.setCell ?_ (by first | exact Nat.le_refl _ | (simp; done) | (simp; omega) | omega) _ | refine Below.alloc ?_ (by first | exact Nat.le_refl _ | (simp; done) | (simp; omega) | omega) _ | refine Below.drew ?_ | exact Nat.le_refl _))
        · have HN := Lib.hid hm
          have hm' : m < 1 ∨ 6 < m := by omega
          clear hm
          go_enter Tryd.func39, Tryd.ntmps39
          go_wp2_with fail
          refine (good_yes _ _ HG.out).mono ?_
          rintro e w' ⟨rfl, rfl⟩
          go_wp2_with fail
          refine (valid_no _ _ hm').mono ?_
          rintro e w' ⟨rfl, rfl⟩
          go_wp2_with fail
          go_ret2
          exact ppost_no (.inr HN.out) (by repeat (first | assumption | exact Below.refl _ _ | refine Below.setCell ?_ (by first | exact Nat.le_refl _ | (simp; done) | (simp; omega) | omega) _ | refine Below.alloc ?_ (by first | exact Nat.le_refl _ | (simp; done) | (simp; omega) | omega) _ | refine Below.drew ?_ | exact Nat.le_refl _))
      · have HN := Lib.hid (show ¬ (gd a ∧ 0 ≤ p ∧ p ≤ 1000000) by omega)
        have p2 : 1000000 < p := by omega
        clear hg p1
        go_enter Tryd.func39, Tryd.ntmps39
        go_wp2_with fail
        refine (good_yes _ _ HG.out).mono ?_
        rintro e w' ⟨rfl, rfl⟩
        go_wp2_with fail
        go_ret2
        exact ppost_no (.inl HN.out) (by repeat (first | assumption | exact Below.refl _ _ | refine Below.setCell ?_ (by first | exact Nat.le_refl _ | (simp; done) | (simp; omega) | omega) _ | refine Below.alloc ?_ (by first | exact Nat.le_refl _ | (simp; done) | (simp; omega) | omega) _ | refine Below.drew ?_ | exact Nat.le_refl _))
    · have HN := Lib.hid (show ¬ (gd a ∧ 0 ≤ p ∧ p ≤ 1000000) by omega)
      have p2 : p < 0 := by omega
      clear hg p0
      go_enter Tryd.func39, Tryd.ntmps39
      go_wp2_with fail
      refine (good_yes _ _ HG.out).mono ?_
      rintro e w' ⟨rfl, rfl⟩
      go_wp2_with fail
      go_ret2
      exact ppost_no (.inl HN.out) (by repeat (first | assumption | exact Below.refl _ _ | refine Below.setCell ?_ (by first | exact Nat.le_refl _ | (simp; done) | (simp; omega) | omega) _ | refine Below.alloc ?_ (by first | exact Nat.le_refl _ | (simp; done) | (simp; omega) | omega) _ | refine Below.drew ?_ | exact Nat.le_refl _))
  · have HN := Lib.hid (show ¬ (gd a ∧ 0 ≤ p ∧ p ≤ 1000000) from fun h => hg h.1)
    have HG := Lib.hid hg
    clear hg
    go_enter Tryd.func39, Tryd.ntmps39
    go_wp2_with fail
    refine (good_no _ _ HG.out).mono ?_
    rintro e w' ⟨rfl, rfl⟩
    go_wp2_with fail
    go_ret2
    exact ppost_no (.inl HN.out) (by repeat (first | assumption | exact Below.refl _ _ | refine Below.setCell ?_ (by first | exact Nat.le_refl _ | (simp; done) | (simp; omega) | omega) _ | refine Below.alloc ?_ (by first | exact Nat.le_refl _ | (simp; done) | (simp; omega) | omega) _ | refine Below.drew ?_ | exact Nat.le_refl _))

end Go.Proofs.YtaanicginfjgdaaDoor.Rd
