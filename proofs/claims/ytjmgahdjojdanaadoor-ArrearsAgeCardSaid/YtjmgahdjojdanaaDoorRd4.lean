/-
  The contracts of Amount, Percent and Step, of package rounding and of the reference.
-/
import Derived.Test.YtjmgahdjojdanaaDoorRd3
import Derived.Test.YtjmgahdjojdanaaDoorRf
namespace Go.Proofs.YtjmgahdjojdanaaDoor.Rd
open Go.RowKit
open Go.Proofs.YtjmgahdjojdanaaDoor
open Go.Proofs.YtjmgahdjojdanaaDoor.Wm Go.Proofs.YtjmgahdjojdanaaDoor.Wt

/-- An amount is valid. -/
def gd (a : Int) : Prop := -1000000000000 ≤ a ∧ a ≤ 1000000000000
instance (a : Int) : Decidable (gd a) := by unfold gd; exact inferInstance
theorem rd_near {x n mode : Int} (hn : 1 ≤ n) : -n < x - rd x n mode * n ∧ x - rd x n mode * n < n := by
  have h1 := Int.mul_ediv_add_emod x n
  have h2 := Int.emod_lt_of_pos x (show 0 < n by omega)
  have h3 := Int.emod_nonneg x (show n ≠ 0 by omega)
  rw [Int.mul_comm] at h1
  by_cases hr : 0 < x % n
  · rw [rd_step hr]
    have h4 := moreI_bd (decide (x < 0)) (decide (x / n % 2 = 1)) (x % n) n mode
    generalize moreI (decide (x < 0)) (decide (x / n % 2 = 1)) (x % n) n mode = m at *
    rw [Int.add_mul]
    have : m = 0 ∨ m = 1 := by omega
    rcases this with rfl | rfl <;> omega
  · rw [rd_exact hr]
    omega
/-- Amount's results. -/
def amE (g m : Int) : Int := if rdE g 1603080000000 m ≠ 0 then rdE g 1603080000000 m else if gd (rdV g 1603080000000 m) then 0 else 6
def amV (g m : Int) : Int := if amE g m = 0 then rdV g 1603080000000 m else 0
def amR (g m : Int) : Int := if amE g m = 0 then g - rdV g 1603080000000 m * 1603080000000 else 0
theorem am_bad {g m : Int} (h : rdE g 1603080000000 m ≠ 0) : amE g m = rdE g 1603080000000 m ∧ amV g m = 0 ∧ amR g m = 0 := by
  have e : amE g m = rdE g 1603080000000 m := if_pos h
  exact ⟨e, if_neg (by rw [e]; exact h), if_neg (by rw [e]; exact h)⟩
theorem am_over {g m : Int} (h : rdE g 1603080000000 m = 0) (hg : ¬ gd (rdV g 1603080000000 m)) : amE g m = 6 ∧ amV g m = 0 ∧ amR g m = 0 := by
  have e : amE g m = 6 := by unfold amE; rw [if_neg (by rw [h]; simp), if_neg hg]
  exact ⟨e, if_neg (by rw [e]; simp), if_neg (by rw [e]; simp)⟩
theorem am_ok {g m : Int} (h : rdE g 1603080000000 m = 0) (hg : gd (rdV g 1603080000000 m)) : amE g m = 0 ∧ amV g m = rdV g 1603080000000 m ∧ amR g m = g - rdV g 1603080000000 m * 1603080000000 := by
  have e : amE g m = 0 := by unfold amE; rw [if_neg (by rw [h]; simp), if_pos hg]
  exact ⟨e, if_pos e, if_pos e⟩
theorem rdE_0 {x n m : Int} (h : rdE x n m = 0) : rok n m ∧ rdV x n m = rd x n m ∧ I64 (rd x n m) := by
  by_cases hk : rok n m
  · rw [(rd_yes hk).2] at h
    have hi : iin (rd x n m) = true := by
      cases hv : iin (rd x n m)
      · rw [hv] at h; simp at h
      · rfl
    have hi' : I64 (rd x n m) := of_decide_eq_true hi
    exact ⟨hk, by rw [(rd_yes hk).1]; exact if_pos hi', hi'⟩
  · rw [(rd_no hk).2] at h; omega
theorem am_bd {g m : Int} (h : rdE g 1603080000000 m = 0) : -1603080000000 < g - rdV g 1603080000000 m * 1603080000000 ∧ g - rdV g 1603080000000 m * 1603080000000 < 1603080000000 := by
  obtain ⟨_, e, _⟩ := rdE_0 h
  rw [e]
  exact rd_near (by omega)
theorem rdV_i64 (x n m : Int) : I64 (rdV x n m) := by
  unfold rdV
  split
  · unfold ifit
    split
    · assumption
    · unfold I64; omega
  · unfold I64; omega
/-- What Amount returns. -/
def APost (g m : Int) (w : World) (e : Ending) (w' : World) : Prop := e = .returned (.tuple #[.int .i64 (amV g m), .agg #[.int .i64 (hi (amR g m)), .int .u64 (lo (amR g m))], .int .i64 (amE g m)]) ∧ Below w.heap.size w w'
theorem apost {g m v r c : Int} {w w' : World} (h : amE g m = c ∧ amV g m = v ∧ amR g m = r) (hb : Below w.heap.size w w') : APost g m w (.returned (.tuple #[.int .i64 v, .agg #[.int .i64 (hi r), .int .u64 (lo r)], .int .i64 c])) w' := by
  unfold APost; rw [h.1, h.2.1, h.2.2]; exact ⟨rfl, hb⟩
theorem apost0 {g m c : Int} {w w' : World} (h : amE g m = c ∧ amV g m = 0 ∧ amR g m = 0) (hb : Below w.heap.size w w') : APost g m w (.returned (.tuple #[.int .i64 0, .agg #[.int .i64 0, .int .u64 0], .int .i64 c])) w' := by
  have := apost h hb
  rw [hi_0, lo_0] at this
  exact this
/-- A rounded part. -/
noncomputable def pcV (a p m : Int) : Int := if gd a ∧ 0 ≤ p ∧ p ≤ 1000000 then rdV (a * p) 1000000 m else 0
noncomputable def pcE (a p m : Int) : Int := if gd a ∧ 0 ≤ p ∧ p ≤ 1000000 then rdE (a * p) 1000000 m else 1
def PPost (a p m : Int) (w : World) (e : Ending) (w' : World) : Prop := e = .returned (.tuple #[.int .i64 (pcV a p m), .int .i64 (pcE a p m)]) ∧ Below w.heap.size w w'
theorem ppost_no {a p m : Int} {w w' : World} (h : ¬ (gd a ∧ 0 ≤ p ∧ p ≤ 1000000) ∨ ¬ (1 ≤ m ∧ m ≤ 6)) (hb : Below w.heap.size w w') : PPost a p m w (.returned (.tuple #[.int .i64 0, .int .i64 1])) w' := by
  unfold PPost pcV pcE
  rcases h with h | h
  · rw [if_neg h, if_neg h]; exact ⟨rfl, hb⟩
  · have hk : ¬ rok 1000000 m := fun hk => h hk.2
    rw [(rd_no (x := a * p) hk).1, (rd_no (x := a * p) hk).2]
    split <;> exact ⟨rfl, hb⟩
theorem ppost_yes {a p m : Int} {w w' : World} (h : gd a ∧ 0 ≤ p ∧ p ≤ 1000000) (hb : Below w.heap.size w w') : PPost a p m w (.returned (.tuple #[.int .i64 (rdV (a * p) 1000000 m), .int .i64 (rdE (a * p) 1000000 m)])) w' := by
  unfold PPost pcV pcE
  rw [if_pos h, if_pos h]; exact ⟨rfl, hb⟩
/-- A rounded multiple. -/
def stOk (a s m : Int) : Prop := gd a ∧ 1 ≤ s ∧ s ≤ 1000000000000 ∧ 1 ≤ m ∧ m ≤ 6
instance (a s m : Int) : Decidable (stOk a s m) := by unfold stOk; exact inferInstance
def stE (a s m : Int) : Int := if stOk a s m then (if gd (rd a s m * s) then 0 else 6) else 1
def stV (a s m : Int) : Int := if stE a s m = 0 then rd a s m * s else 0
def SPost (a s m : Int) (w : World) (e : Ending) (w' : World) : Prop := e = .returned (.tuple #[.int .i64 (stV a s m), .int .i64 (stE a s m)]) ∧ Below w.heap.size w w'
theorem spost_no {a s m : Int} {w w' : World} (h : ¬ stOk a s m) (hb : Below w.heap.size w w') : SPost a s m w (.returned (.tuple #[.int .i64 0, .int .i64 1])) w' := by
  have e : stE a s m = 1 := if_neg h
  unfold SPost stV
  rw [e]; exact ⟨rfl, hb⟩
theorem spost_over {a s m : Int} {w w' : World} (h : stOk a s m) (hg : ¬ gd (rd a s m * s)) (hb : Below w.heap.size w w') : SPost a s m w (.returned (.tuple #[.int .i64 0, .int .i64 6])) w' := by
  have e : stE a s m = 6 := by unfold stE; rw [if_pos h, if_neg hg]
  unfold SPost stV
  rw [e]; exact ⟨rfl, hb⟩
theorem spost_ok {a s m : Int} {w w' : World} (h : stOk a s m) (hg : gd (rd a s m * s)) (hb : Below w.heap.size w w') : SPost a s m w (.returned (.tuple #[.int .i64 (rd a s m * s), .int .i64 0])) w' := by
  have e : stE a s m = 0 := by unfold stE; rw [if_pos h, if_pos hg]
  unfold SPost stV
  rw [e]; exact ⟨rfl, hb⟩
theorem st_bd {a s m : Int} (h : stOk a s m) : -2000000000000 ≤ rd a s m * s ∧ rd a s m * s ≤ 2000000000000 ∧ -1000000000001 ≤ rd a s m ∧ rd a s m ≤ 1000000000001 := by
  obtain ⟨⟨a1, a2⟩, s1, s2, _, _⟩ := h
  have h1 := rd_near (x := a) (n := s) (mode := m) s1
  have h2 : -1000000000001 ≤ rd a s m := by
    rcases Classical.em (-1000000000001 ≤ rd a s m) with h | h
    · exact h
    · have : rd a s m * s ≤ -1000000000002 * s := Int.mul_le_mul_of_nonneg_right (by omega) (by omega)
      omega
  have h3 : rd a s m ≤ 1000000000001 := by
    rcases Classical.em (rd a s m ≤ 1000000000001) with h | h
    · exact h
    · have : 1000000000002 * s ≤ rd a s m * s := Int.mul_le_mul_of_nonneg_right (by omega) (by omega)
      omega
  omega
theorem st_fit {a s m : Int} (h : stOk a s m) : rdV a s m = rd a s m ∧ rdE a s m = 0 := by
  have hb := st_bd h
  have hk : rok s m := ⟨h.2.1, h.2.2.2⟩
  have hi : I64 (rd a s m) := by unfold I64; omega
  rw [(rd_yes hk).1, (rd_yes hk).2]
  exact ⟨if_pos hi, by rw [show iin (rd a s m) = true from decide_eq_true hi]; rfl⟩

theorem good_yes (a : Int) (w : World) (h : gd a) : Calls Tryd.prog 78 #[.int .i64 a] w fun e w' => e = .returned (.bool true) ∧ w = w' := by
  obtain ⟨h1, h2⟩ := h
  go_enter Tryd.func78, Tryd.ntmps78
  go_wp2_with fail
  go_ret
  exact ⟨by simp, rfl⟩
theorem good_no (a : Int) (w : World) (h : ¬ gd a) : Calls Tryd.prog 78 #[.int .i64 a] w fun e w' => e = .returned (.bool false) ∧ w = w' := by
  unfold gd at h
  by_cases h1 : a < -1000000000000
  · clear h
    go_enter Tryd.func78, Tryd.ntmps78
    go_wp2_with fail
    go_ret
    exact ⟨by simp, rfl⟩
  · have h2 : -1000000000000 ≤ a := by omega
    have h3 : 1000000000000 < a := by omega
    clear h h1
    go_enter Tryd.func78, Tryd.ntmps78
    go_wp2_with fail
    go_ret
    exact ⟨by simpa using h3, rfl⟩

theorem rgood_yes (a : Int) (w : World) (h : gd a) : Calls Tryd.prog 81 #[.int .i64 a] w fun e w' => e = .returned (.bool true) ∧ w = w' := by
  obtain ⟨h1, h2⟩ := h
  go_enter Tryd.func81, Tryd.ntmps81
  go_wp2_with fail
  go_ret
  exact ⟨by simp, rfl⟩
theorem rgood_no (a : Int) (w : World) (h : ¬ gd a) : Calls Tryd.prog 81 #[.int .i64 a] w fun e w' => e = .returned (.bool false) ∧ w = w' := by
  unfold gd at h
  by_cases h1 : a < -1000000000000
  · clear h
    go_enter Tryd.func81, Tryd.ntmps81
    go_wp2_with fail
    go_ret
    exact ⟨by simp, rfl⟩
  · have h2 : -1000000000000 ≤ a := by omega
    have h3 : 1000000000000 < a := by omega
    clear h h1
    go_enter Tryd.func81, Tryd.ntmps81
    go_wp2_with fail
    go_ret
    exact ⟨by simpa using h3, rfl⟩

set_option maxHeartbeats 4000000 in
theorem amount_any (g m : Int) (w : World) (hS : Stp w) (hg : I128 g) : Calls Tryd.prog 38 #[.agg #[.int .i64 (hi g), .int .u64 (lo g)], .int .i64 m] w (APost g m w) := by
  have hd := fun (W : World) (hS : Stp W) => rd_any g 1603080000000 m W hS hg (by unfold I64; omega)
  unfold DPost at hd
  have hv64 := rdV_i64 g 1603080000000 m
  have b0 := Below.refl w.heap.size w
  by_cases he : rdE g 1603080000000 m = 0
  · have HE := Lib.hid he
    rw [he] at hd
    have HD := Lib.hid hd
    have hab := am_bd he
    by_cases hok : gd (rdV g 1603080000000 m)
    · have HP := Lib.hid (am_ok he hok)
      have HG := Lib.hid hok
      have hm := fun W => mul_any (rdV g 1603080000000 m) 1603080000000 W hv64 (by unfold I64; omega)
      have hs := fun W => sub_any g (rdV g 1603080000000 m * 1603080000000) W hg (mul_bd hv64 (show I64 1603080000000 by unfold I64; omega)).1
      have hin : I128 (g - rdV g 1603080000000 m * 1603080000000) := by unfold I128; omega
      unfold WSum at hs
      rw [fit_in hin, ovf_in hin] at hs
      have HM := Lib.hid hm
      have HS := Lib.hid hs
      clear hd hv64 he hab hok hm hs hin hg
      generalize hp : rdV g 1603080000000 m * 1603080000000 = p at *
      clear hp
      generalize hr : g - p = r at *
      clear hr
      generalize hvx : rdV g 1603080000000 m = v at *
      clear hvx
      go_enter Tryd.func38, Tryd.ntmps38
      go_wp2_with fail
      refine (HD.out _ (hS.of (by repeat (first | assumption | exact Below.refl _ _ | refine Below.setCell ?_ (by first | exact Nat.le_refl _ | (simp; done) | (simp; omega) | omega) _ | refine Below.alloc ?_ (by first | exact Nat.le_refl _ | (simp; done) | (simp; omega) | omega) _ | refine Below.drew ?_ | exact Nat.le_refl _)))).mono ?_
      rintro e w1 ⟨rfl, hb1⟩
      have b1 : Below w.heap.size w w1 := bl2 hb1 (by repeat (first | assumption | exact Below.refl _ _ | refine Below.setCell ?_ (by first | exact Nat.le_refl _ | (simp; done) | (simp; omega) | omega) _ | refine Below.alloc ?_ (by first | exact Nat.le_refl _ | (simp; done) | (simp; omega) | omega) _ | refine Below.drew ?_ | exact Nat.le_refl _))
      have z1 := b1.size
      repeat (rename Bk.Blk w _ _ _ => hq; (first | (have hq' := Bk.Blk.carry hq hb1 (by (repeat (first | with_reducible refine Bk.Blk.drew ?_ | with_reducible refine Bk.Blk.set_same ?_ | with_reducible refine Bk.Blk.set_ne ?_ (by omega) | with_reducible refine Bk.Blk.alloc ?_)); (with_reducible exact hq))) | (have hq' := Bk.Blk.later hb1 (Bk.Blk.set2 hq)) | skip); clear hq)
      try (have hn := Bk.Blk.later (g := (w).heap.size) hb1 (by first | with_reducible exact Bk.Blk.nw10 | with_reducible exact Bk.Blk.nw20 | with_reducible exact Bk.Blk.nw21 | with_reducible exact Bk.Blk.nw30 | with_reducible exact Bk.Blk.nw31 | with_reducible exact Bk.Blk.nw32 | with_reducible exact Bk.Blk.nw40 | with_reducible exact Bk.Blk.nw41 | with_reducible exact Bk.Blk.nw42 | with_reducible exact Bk.Blk.nw43))
      try (have hn := Bk.Blk.later (g := (w).heap.size + 1) hb1 (by first | with_reducible exact Bk.Blk.nw10 | with_reducible exact Bk.Blk.nw20 | with_reducible exact Bk.Blk.nw21 | with_reducible exact Bk.Blk.nw30 | with_reducible exact Bk.Blk.nw31 | with_reducible exact Bk.Blk.nw32 | with_reducible exact Bk.Blk.nw40 | with_reducible exact Bk.Blk.nw41 | with_reducible exact Bk.Blk.nw42 | with_reducible exact Bk.Blk.nw43))
      try (have hn := Bk.Blk.later (g := (w).heap.size + 2) hb1 (by first | with_reducible exact Bk.Blk.nw10 | with_reducible exact Bk.Blk.nw20 | with_reducible exact Bk.Blk.nw21 | with_reducible exact Bk.Blk.nw30 | with_reducible exact Bk.Blk.nw31 | with_reducible exact Bk.Blk.nw32 | with_reducible exact Bk.Blk.nw40 | with_reducible exact Bk.Blk.nw41 | with_reducible exact Bk.Blk.nw42 | with_reducible exact Bk.Blk.nw43))
      try (have hn := Bk.Blk.later (g := (w).heap.size + 3) hb1 (by first | with_reducible exact Bk.Blk.nw10 | with_reducible exact Bk.Blk.nw20 | with_reducible exact Bk.Blk.nw21 | with_reducible exact Bk.Blk.nw30 | with_reducible exact Bk.Blk.nw31 | with_reducible exact Bk.Blk.nw32 | with_reducible exact Bk.Blk.nw40 | with_reducible exact Bk.Blk.nw41 | with_reducible exact Bk.Blk.nw42 | with_reducible exact Bk.Blk.nw43))
      clear hb1
      repeat (rename World.cell? w _ = _ => hq; clear hq)
      repeat (rename World.frozen? w _ = _ => hq; clear hq)
      repeat (rename Bk.Blk w1 _ _ _ => hq; (first | (have _k0 := (hq).c0; have _m0 := (hq).f0) | skip); (first | (have _k1 := (hq).c1; have _m1 := (hq).f1) | skip); (first | (have _k2 := (hq).c2; have _m2 := (hq).f2) | skip); (first | (have _k3 := (hq).c3; have _m3 := (hq).f3) | skip); have _z := (hq).lt; have hk := Bk.Kept.mk hq; clear hq)
      repeat (rename Bk.Kept (Bk.Blk w1 _ _ _) => hq; have hq' := hq.out; clear hq)
      go_wp2_with fail
      refine (good_yes _ _ HG.out).mono ?_
      rintro e w' ⟨rfl, rfl⟩
      go_wp2_with fail
      refine Reg.region_alloc 8 7 9 (.cells #[.int .i64 0, .int .u64 0] 36) [(6, 8)] (by kernel_rfl) (by kernel_rfl) (by kernel_rfl) (fun d _ _ _ _ h => by cases d <;> exact h) _ rfl rfl rfl (fun ρ W => by simp [go_sem, Reg.ptr]) ?_
      simp only [Reg.edges, Reg.edge]
      have key := Bk.key0 (W := w1)
      repeat (rename Bk.Blk w1 _ _ _ => hq; (first | replace key := Bk.kadd key (hq).gall1 | replace key := Bk.kadd key (hq).gall2 | replace key := Bk.kadd key (hq).gall3 | replace key := Bk.kadd key (hq).gall4 | replace key := Bk.kadd key (hq).gall5 | replace key := Bk.kadd key (hq).gall6 | replace key := Bk.kadd key (hq).gall7 | replace key := Bk.kadd key (hq).gall8 | replace key := Bk.kadd key (hq).gall9 | replace key := Bk.kadd key (hq).gall10 | replace key := Bk.kadd key (hq).gall11 | replace key := Bk.kadd key (hq).gall12 | replace key := Bk.kadd key (hq).gall13 | replace key := Bk.kadd key (hq).gall14 | replace key := Bk.kadd key (hq).gall15 | replace key := Bk.kadd key (hq).gall16 | replace key := Bk.kadd key (hq).gall17 | replace key := Bk.kadd key (hq).gall18 | replace key := Bk.kadd key (hq).gall19 | replace key := Bk.kadd key (hq).gall20 | skip); have hk := Bk.Kept.mk hq; clear hq)
      repeat (rename Bk.Kept (Bk.Blk w1 _ _ _) => hq; have hq' := hq.out; clear hq)
      apply Exists.intro
      refine ⟨?_, ?_⟩
      · (intro C hC; simp only [Reg.blank, List.take_succ_cons, List.take_zero]; have kk := key C hC; (try have _a := kk.1.1); (try have _a := kk.1.2.1); (try have _a := kk.1.2.2.1); (try have _a := kk.2.1.1); (try have _a := kk.2.1.2.1); (try have _a := kk.2.1.2.2.1); (try have _a := kk.2.2.1.1); (try have _a := kk.2.2.1.2.1); (try have _a := kk.2.2.1.2.2.1); (try have _a := kk.2.2.2.1.1); (try have _a := kk.2.2.2.1.2.1); (try have _a := kk.2.2.2.1.2.2.1); (try have _a := kk.2.2.2.2.1.1); (try have _a := kk.2.2.2.2.1.2.1); (try have _a := kk.2.2.2.2.1.2.2.1); (try have _a := kk.2.2.2.2.2.1.1); (try have _a := kk.2.2.2.2.2.1.2.1); (try have _a := kk.2.2.2.2.2.1.2.2.1); (try have _a := kk.2.2.2.2.2.2.1.1); (try have _a := kk.2.2.2.2.2.2.1.2.1); (try have _a := kk.2.2.2.2.2.2.1.2.2.1); (try have _a := kk.2.2.2.2.2.2.2.1.1); (try have _a := kk.2.2.2.2.2.2.2.1.2.1); (try have _a := kk.2.2.2.2.2.2.2.1.2.2.1); (try have _a := kk.2.2.2.2.2.2.2.2.1.1); (try have _a := kk.2.2.2.2.2.2.2.2.1.2.1); (try have _a := kk.2.2.2.2.2.2.2.2.1.2.2.1); (try have _a := kk.2.2.2.2.2.2.2.2.2.1.1); (try have _a := kk.2.2.2.2.2.2.2.2.2.1.2.1); (try have _a := kk.2.2.2.2.2.2.2.2.2.1.2.2.1); (iterate 8 (first | go_big_quiet_skip | (go_big_quiet_want; (first | (go_big_quiet_op; go_big_quiet_on) | (apply Reg.quiet_run; (intro W hW; have hI : Bk.In C W := hW; go_simp; (first | done | rfl | exact ⟨rfl, rfl⟩ )); (simp only [Act.put, List.setIfInBounds_toArray, List.set_cons_zero, List.set_cons_succ]; go_big_quiet_on)) | (apply Reg.quiet_call; (intro W hW; go_simp; (first | done | rfl | exact ⟨rfl, rfl⟩)); (intro W hW; (first | (go_at_call 31; exact hC.call hW (HM.out _)) | (go_at_call 79; exact hC.call hW (HS.out _)))); (simp only [Act.put, List.setIfInBounds_toArray, List.set_cons_zero, List.set_cons_succ]; go_big_quiet_on)))))); exact wpQuiet_nil rfl)
      clear key
      intro W w2 hW hb
      have hW2 := Reg.alc_back hW hb
      have hn := Bk.Blk.made hb
      have k2 := Below.size hW
      have b2 := bl2 hW2 (by repeat (first | assumption | exact Below.refl _ _ | refine Below.setCell ?_ (by first | exact Nat.le_refl _ | (simp; done) | (simp; omega) | omega) _ | refine Below.alloc ?_ (by first | exact Nat.le_refl _ | (simp; done) | (simp; omega) | omega) _ | refine Below.drew ?_ | exact Nat.le_refl _))
      have z2 := b2.size
      repeat (rename Bk.Blk w1 _ _ _ => hq; (first | (have hq' := Bk.Blk.later hW2 hq) | skip); clear hq)
      clear hb hW hW2
      repeat (rename World.cell? w1 _ = _ => hq; clear hq)
      repeat (rename World.frozen? w1 _ = _ => hq; clear hq)
      repeat (rename Bk.Blk w2 _ _ _ => hq; (first | (have _k0 := (hq).c0; have _m0 := (hq).f0) | skip); (first | (have _k1 := (hq).c1; have _m1 := (hq).f1) | skip); (first | (have _k2 := (hq).c2; have _m2 := (hq).f2) | skip); (first | (have _k3 := (hq).c3; have _m3 := (hq).f3) | skip); have _z := (hq).lt; have hk := Bk.Kept.mk hq; clear hq)
      repeat (rename Bk.Kept (Bk.Blk w2 _ _ _) => hq; have hq' := hq.out; clear hq)
      simp only [List.drop_succ_cons, List.drop_zero, Act.put, List.setIfInBounds_toArray, List.set_cons_zero, List.set_cons_succ, Reg.ptr]
      generalize W.heap.size = g2 at *
      go_wp2_with fail
      go_region
      go_wp2_with fail
      simp [bodyPost, results, Tryd.results38, go_sem, *]
      exact apost HP.out (by repeat (first | assumption | exact Below.refl _ _ | refine Below.setCell ?_ (by first | exact Nat.le_refl _ | (simp; done) | (simp; omega) | omega) _ | refine Below.alloc ?_ (by first | exact Nat.le_refl _ | (simp; done) | (simp; omega) | omega) _ | refine Below.drew ?_ | exact Nat.le_refl _))
    · have HP := Lib.hid (am_over he hok)
      have HG := Lib.hid hok
      clear hd hv64 he hab hok hg
      go_enter Tryd.func38, Tryd.ntmps38
      go_wp2_with fail
      refine (HD.out _ (hS.of (by repeat (first | assumption | exact Below.refl _ _ | refine Below.setCell ?_ (by first | exact Nat.le_refl _ | (simp; done) | (simp; omega) | omega) _ | refine Below.alloc ?_ (by first | exact Nat.le_refl _ | (simp; done) | (simp; omega) | omega) _ | refine Below.drew ?_ | exact Nat.le_refl _)))).mono ?_
      rintro e w1 ⟨rfl, hb1⟩
      have b1 : Below w.heap.size w w1 := bl2 hb1 (by repeat (first | assumption | exact Below.refl _ _ | refine Below.setCell ?_ (by first | exact Nat.le_refl _ | (simp; done) | (simp; omega) | omega) _ | refine Below.alloc ?_ (by first | exact Nat.le_refl _ | (simp; done) | (simp; omega) | omega) _ | refine Below.drew ?_ | exact Nat.le_refl _))
      have z1 := b1.size
      repeat (rename Bk.Blk w _ _ _ => hq; (first | (have hq' := Bk.Blk.carry hq hb1 (by (repeat (first | with_reducible refine Bk.Blk.drew ?_ | with_reducible refine Bk.Blk.set_same ?_ | with_reducible refine Bk.Blk.set_ne ?_ (by omega) | with_reducible refine Bk.Blk.alloc ?_)); (with_reducible exact hq))) | (have hq' := Bk.Blk.later hb1 (Bk.Blk.set2 hq)) | skip); clear hq)
      try (have hn := Bk.Blk.later (g := (w).heap.size) hb1 (by first | with_reducible exact Bk.Blk.nw10 | with_reducible exact Bk.Blk.nw20 | with_reducible exact Bk.Blk.nw21 | with_reducible exact Bk.Blk.nw30 | with_reducible exact Bk.Blk.nw31 | with_reducible exact Bk.Blk.nw32 | with_reducible exact Bk.Blk.nw40 | with_reducible exact Bk.Blk.nw41 | with_reducible exact Bk.Blk.nw42 | with_reducible exact Bk.Blk.nw43))
      try (have hn := Bk.Blk.later (g := (w).heap.size + 1) hb1 (by first | with_reducible exact Bk.Blk.nw10 | with_reducible exact Bk.Blk.nw20 | with_reducible exact Bk.Blk.nw21 | with_reducible exact Bk.Blk.nw30 | with_reducible exact Bk.Blk.nw31 | with_reducible exact Bk.Blk.nw32 | with_reducible exact Bk.Blk.nw40 | with_reducible exact Bk.Blk.nw41 | with_reducible exact Bk.Blk.nw42 | with_reducible exact Bk.Blk.nw43))
      try (have hn := Bk.Blk.later (g := (w).heap.size + 2) hb1 (by first | with_reducible exact Bk.Blk.nw10 | with_reducible exact Bk.Blk.nw20 | with_reducible exact Bk.Blk.nw21 | with_reducible exact Bk.Blk.nw30 | with_reducible exact Bk.Blk.nw31 | with_reducible exact Bk.Blk.nw32 | with_reducible exact Bk.Blk.nw40 | with_reducible exact Bk.Blk.nw41 | with_reducible exact Bk.Blk.nw42 | with_reducible exact Bk.Blk.nw43))
      try (have hn := Bk.Blk.later (g := (w).heap.size + 3) hb1 (by first | with_reducible exact Bk.Blk.nw10 | with_reducible exact Bk.Blk.nw20 | with_reducible exact Bk.Blk.nw21 | with_reducible exact Bk.Blk.nw30 | with_reducible exact Bk.Blk.nw31 | with_reducible exact Bk.Blk.nw32 | with_reducible exact Bk.Blk.nw40 | with_reducible exact Bk.Blk.nw41 | with_reducible exact Bk.Blk.nw42 | with_reducible exact Bk.Blk.nw43))
      clear hb1
      repeat (rename World.cell? w _ = _ => hq; clear hq)
      repeat (rename World.frozen? w _ = _ => hq; clear hq)
      repeat (rename Bk.Blk w1 _ _ _ => hq; (first | (have _k0 := (hq).c0; have _m0 := (hq).f0) | skip); (first | (have _k1 := (hq).c1; have _m1 := (hq).f1) | skip); (first | (have _k2 := (hq).c2; have _m2 := (hq).f2) | skip); (first | (have _k3 := (hq).c3; have _m3 := (hq).f3) | skip); have _z := (hq).lt; have hk := Bk.Kept.mk hq; clear hq)
      repeat (rename Bk.Kept (Bk.Blk w1 _ _ _) => hq; have hq' := hq.out; clear hq)
      go_wp2_with fail
      refine (good_no _ _ HG.out).mono ?_
      rintro e w' ⟨rfl, rfl⟩
      go_wp2_with fail
      simp [bodyPost, results, Tryd.results38, go_sem, *]
      exact apost0 HP.out (by repeat (first | assumption | exact Below.refl _ _ | refine Below.setCell ?_ (by first | exact Nat.le_refl _ | (simp; done) | (simp; omega) | omega) _ | refine Below.alloc ?_ (by first | exact Nat.le_refl _ | (simp; done) | (simp; omega) | omega) _ | refine Below.drew ?_ | exact Nat.le_refl _))
  · have HP := Lib.hid (am_bad he)
    have HD := Lib.hid hd
    have hne : (rdE g 1603080000000 m != 0) = true := bne_iff_ne.2 he
    clear hd hv64 he hg
    go_enter Tryd.func38, Tryd.ntmps38
    go_wp2_with fail
    refine (HD.out _ (hS.of (by repeat (first | assumption | exact Below.refl _ _ | refine Below.setCell ?_ (by first | exact Nat.le_refl _ | (simp; done) | (simp; omega) | omega) _ | refine Below.alloc ?_ (by first | exact Nat.le_refl _ | (simp; done) | (simp; omega) | omega) _ | refine Below.drew ?_ | exact Nat.le_refl _)))).mono ?_
    rintro e w1 ⟨rfl, hb1⟩
    have b1 : Below w.heap.size w w1 := bl2 hb1 (by repeat (first | assumption | exact Below.refl _ _ | refine Below.setCell ?_ (by first | exact Nat.le_refl _ | (simp; done) | (simp; omega) | omega) _ | refine Below.alloc ?_ (by first | exact Nat.le_refl _ | (simp; done) | (simp; omega) | omega) _ | refine Below.drew ?_ | exact Nat.le_refl _))
    have z1 := b1.size
    repeat (rename Bk.Blk w _ _ _ => hq; (first | (have hq' := Bk.Blk.carry hq hb1 (by (repeat (first | with_reducible refine Bk.Blk.drew ?_ | with_reducible refine Bk.Blk.set_same ?_ | with_reducible refine Bk.Blk.set_ne ?_ (by omega) | with_reducible refine Bk.Blk.alloc ?_)); (with_reducible exact hq))) | (have hq' := Bk.Blk.later hb1 (Bk.Blk.set2 hq)) | skip); clear hq)
    try (have hn := Bk.Blk.later (g := (w).heap.size) hb1 (by first | with_reducible exact Bk.Blk.nw10 | with_reducible exact Bk.Blk.nw20 | with_reducible exact Bk.Blk.nw21 | with_reducible exact Bk.Blk.nw30 | with_reducible exact Bk.Blk.nw31 | with_reducible exact Bk.Blk.nw32 | with_reducible exact Bk.Blk.nw40 | with_reducible exact Bk.Blk.nw41 | with_reducible exact Bk.Blk.nw42 | with_reducible exact Bk.Blk.nw43))
    try (have hn := Bk.Blk.later (g := (w).heap.size + 1) hb1 (by first | with_reducible exact Bk.Blk.nw10 | with_reducible exact Bk.Blk.nw20 | with_reducible exact Bk.Blk.nw21 | with_reducible exact Bk.Blk.nw30 | with_reducible exact Bk.Blk.nw31 | with_reducible exact Bk.Blk.nw32 | with_reducible exact Bk.Blk.nw40 | with_reducible exact Bk.Blk.nw41 | with_reducible exact Bk.Blk.nw42 | with_reducible exact Bk.Blk.nw43))
    try (have hn := Bk.Blk.later (g := (w).heap.size + 2) hb1 (by first | with_reducible exact Bk.Blk.nw10 | with_reducible exact Bk.Blk.nw20 | with_reducible exact Bk.Blk.nw21 | with_reducible exact Bk.Blk.nw30 | with_reducible exact Bk.Blk.nw31 | with_reducible exact Bk.Blk.nw32 | with_reducible exact Bk.Blk.nw40 | with_reducible exact Bk.Blk.nw41 | with_reducible exact Bk.Blk.nw42 | with_reducible exact Bk.Blk.nw43))
    try (have hn := Bk.Blk.later (g := (w).heap.size + 3) hb1 (by first | with_reducible exact Bk.Blk.nw10 | with_reducible exact Bk.Blk.nw20 | with_reducible exact Bk.Blk.nw21 | with_reducible exact Bk.Blk.nw30 | with_reducible exact Bk.Blk.nw31 | with_reducible exact Bk.Blk.nw32 | with_reducible exact Bk.Blk.nw40 | with_reducible exact Bk.Blk.nw41 | with_reducible exact Bk.Blk.nw42 | with_reducible exact Bk.Blk.nw43))
    clear hb1
    repeat (rename World.cell? w _ = _ => hq; clear hq)
    repeat (rename World.frozen? w _ = _ => hq; clear hq)
    repeat (rename Bk.Blk w1 _ _ _ => hq; (first | (have _k0 := (hq).c0; have _m0 := (hq).f0) | skip); (first | (have _k1 := (hq).c1; have _m1 := (hq).f1) | skip); (first | (have _k2 := (hq).c2; have _m2 := (hq).f2) | skip); (first | (have _k3 := (hq).c3; have _m3 := (hq).f3) | skip); have _z := (hq).lt; have hk := Bk.Kept.mk hq; clear hq)
    repeat (rename Bk.Kept (Bk.Blk w1 _ _ _) => hq; have hq' := hq.out; clear hq)
    go_wp2_with fail
    simp [bodyPost, results, Tryd.results38, go_sem, *]
    exact apost0 HP.out (by repeat (first | assumption | exact Below.refl _ _ | refine Below.setCell ?_ (by first | exact Nat.le_refl _ | (simp; done) | (simp; omega) | omega) _ | refine Below.alloc ?_ (by first | exact Nat.le_refl _ | (simp; done) | (simp; omega) | omega) _ | refine Below.drew ?_ | exact Nat.le_refl _))

set_option maxHeartbeats 4000000 in
theorem ramount_any (g m : Int) (w : World) (hg : I128 g) : Calls Tryd.prog 41 #[.agg #[.int .i64 (hi g), .int .u64 (lo g)], .int .i64 m] w (APost g m w) := by
  have hd := fun (W : World) => rrd_any g 1603080000000 m W hg (by unfold I64; omega)
  unfold DPost at hd
  have hv64 := rdV_i64 g 1603080000000 m
  have b0 := Below.refl w.heap.size w
  by_cases he : rdE g 1603080000000 m = 0
  · have HE := Lib.hid he
    rw [he] at hd
    have HD := Lib.hid hd
    have hab := am_bd he
    by_cases hok : gd (rdV g 1603080000000 m)
    · have HP := Lib.hid (am_ok he hok)
      have HG := Lib.hid hok
      have hm := fun W => rmul_any (rdV g 1603080000000 m) 1603080000000 W hv64 (by unfold I64; omega)
      have hs := fun W => rsub_any g (rdV g 1603080000000 m * 1603080000000) W hg (mul_bd hv64 (show I64 1603080000000 by unfold I64; omega)).1
      have hin : I128 (g - rdV g 1603080000000 m * 1603080000000) := by unfold I128; omega
      unfold SumPost at hs
      rw [fit_in hin, ovf_in hin] at hs
      have HM := Lib.hid hm
      have HS := Lib.hid hs
      clear hd hv64 he hab hok hm hs hin hg
      generalize hp : rdV g 1603080000000 m * 1603080000000 = p at *
      clear hp
      generalize hr : g - p = r at *
      clear hr
      generalize hvx : rdV g 1603080000000 m = v at *
      clear hvx
      go_enter Tryd.func41, Tryd.ntmps41
      go_wp2_with fail
      refine (HD.out _ ).mono ?_
      rintro e w1 ⟨rfl, hb1⟩
      have b1 : Below w.heap.size w w1 := bl2 hb1 (by repeat (first | assumption | exact Below.refl _ _ | refine Below.setCell ?_ (by first | exact Nat.le_refl _ | (simp; done) | (simp; omega) | omega) _ | refine Below.alloc ?_ (by first | exact Nat.le_refl _ | (simp; done) | (simp; omega) | omega) _ | refine Below.drew ?_ | exact Nat.le_refl _))
      have z1 := b1.size
      repeat (rename Bk.Blk w _ _ _ => hq; (first | (have hq' := Bk.Blk.carry hq hb1 (by (repeat (first | with_reducible refine Bk.Blk.drew ?_ | with_reducible refine Bk.Blk.set_same ?_ | with_reducible refine Bk.Blk.set_ne ?_ (by omega) | with_reducible refine Bk.Blk.alloc ?_)); (with_reducible exact hq))) | (have hq' := Bk.Blk.later hb1 (Bk.Blk.set2 hq)) | skip); clear hq)
      try (have hn := Bk.Blk.later (g := (w).heap.size) hb1 (by first | with_reducible exact Bk.Blk.nw10 | with_reducible exact Bk.Blk.nw20 | with_reducible exact Bk.Blk.nw21 | with_reducible exact Bk.Blk.nw30 | with_reducible exact Bk.Blk.nw31 | with_reducible exact Bk.Blk.nw32 | with_reducible exact Bk.Blk.nw40 | with_reducible exact Bk.Blk.nw41 | with_reducible exact Bk.Blk.nw42 | with_reducible exact Bk.Blk.nw43))
      try (have hn := Bk.Blk.later (g := (w).heap.size + 1) hb1 (by first | with_reducible exact Bk.Blk.nw10 | with_reducible exact Bk.Blk.nw20 | with_reducible exact Bk.Blk.nw21 | with_reducible exact Bk.Blk.nw30 | with_reducible exact Bk.Blk.nw31 | with_reducible exact Bk.Blk.nw32 | with_reducible exact Bk.Blk.nw40 | with_reducible exact Bk.Blk.nw41 | with_reducible exact Bk.Blk.nw42 | with_reducible exact Bk.Blk.nw43))
      try (have hn := Bk.Blk.later (g := (w).heap.size + 2) hb1 (by first | with_reducible exact Bk.Blk.nw10 | with_reducible exact Bk.Blk.nw20 | with_reducible exact Bk.Blk.nw21 | with_reducible exact Bk.Blk.nw30 | with_reducible exact Bk.Blk.nw31 | with_reducible exact Bk.Blk.nw32 | with_reducible exact Bk.Blk.nw40 | with_reducible exact Bk.Blk.nw41 | with_reducible exact Bk.Blk.nw42 | with_reducible exact Bk.Blk.nw43))
      try (have hn := Bk.Blk.later (g := (w).heap.size + 3) hb1 (by first | with_reducible exact Bk.Blk.nw10 | with_reducible exact Bk.Blk.nw20 | with_reducible exact Bk.Blk.nw21 | with_reducible exact Bk.Blk.nw30 | with_reducible exact Bk.Blk.nw31 | with_reducible exact Bk.Blk.nw32 | with_reducible exact Bk.Blk.nw40 | with_reducible exact Bk.Blk.nw41 | with_reducible exact Bk.Blk.nw42 | with_reducible exact Bk.Blk.nw43))
      clear hb1
      repeat (rename World.cell? w _ = _ => hq; clear hq)
      repeat (rename World.frozen? w _ = _ => hq; clear hq)
      repeat (rename Bk.Blk w1 _ _ _ => hq; (first | (have _k0 := (hq).c0; have _m0 := (hq).f0) | skip); (first | (have _k1 := (hq).c1; have _m1 := (hq).f1) | skip); (first | (have _k2 := (hq).c2; have _m2 := (hq).f2) | skip); (first | (have _k3 := (hq).c3; have _m3 := (hq).f3) | skip); have _z := (hq).lt; have hk := Bk.Kept.mk hq; clear hq)
      repeat (rename Bk.Kept (Bk.Blk w1 _ _ _) => hq; have hq' := hq.out; clear hq)
      go_wp2_with fail
      refine (rgood_yes _ _ HG.out).mono ?_
      rintro e w' ⟨rfl, rfl⟩
      go_wp2_with fail
      refine Reg.region_alloc 8 7 9 (.cells #[.int .i64 0, .int .u64 0] 36) [(6, 8)] (by kernel_rfl) (by kernel_rfl) (by kernel_rfl) (fun d _ _ _ _ h => by cases d <;> exact h) _ rfl rfl rfl (fun ρ W => by simp [go_sem, Reg.ptr]) ?_
      simp only [Reg.edges, Reg.edge]
      have key := Bk.key0 (W := w1)
      repeat (rename Bk.Blk w1 _ _ _ => hq; (first | replace key := Bk.kadd key (hq).gall1 | replace key := Bk.kadd key (hq).gall2 | replace key := Bk.kadd key (hq).gall3 | replace key := Bk.kadd key (hq).gall4 | replace key := Bk.kadd key (hq).gall5 | replace key := Bk.kadd key (hq).gall6 | replace key := Bk.kadd key (hq).gall7 | replace key := Bk.kadd key (hq).gall8 | replace key := Bk.kadd key (hq).gall9 | replace key := Bk.kadd key (hq).gall10 | replace key := Bk.kadd key (hq).gall11 | replace key := Bk.kadd key (hq).gall12 | replace key := Bk.kadd key (hq).gall13 | replace key := Bk.kadd key (hq).gall14 | replace key := Bk.kadd key (hq).gall15 | replace key := Bk.kadd key (hq).gall16 | replace key := Bk.kadd key (hq).gall17 | replace key := Bk.kadd key (hq).gall18 | replace key := Bk.kadd key (hq).gall19 | replace key := Bk.kadd key (hq).gall20 | skip); have hk := Bk.Kept.mk hq; clear hq)
      repeat (rename Bk.Kept (Bk.Blk w1 _ _ _) => hq; have hq' := hq.out; clear hq)
      apply Exists.intro
      refine ⟨?_, ?_⟩
      · (intro C hC; simp only [Reg.blank, List.take_succ_cons, List.take_zero]; have kk := key C hC; (try have _a := kk.1.1); (try have _a := kk.1.2.1); (try have _a := kk.1.2.2.1); (try have _a := kk.2.1.1); (try have _a := kk.2.1.2.1); (try have _a := kk.2.1.2.2.1); (try have _a := kk.2.2.1.1); (try have _a := kk.2.2.1.2.1); (try have _a := kk.2.2.1.2.2.1); (try have _a := kk.2.2.2.1.1); (try have _a := kk.2.2.2.1.2.1); (try have _a := kk.2.2.2.1.2.2.1); (try have _a := kk.2.2.2.2.1.1); (try have _a := kk.2.2.2.2.1.2.1); (try have _a := kk.2.2.2.2.1.2.2.1); (try have _a := kk.2.2.2.2.2.1.1); (try have _a := kk.2.2.2.2.2.1.2.1); (try have _a := kk.2.2.2.2.2.1.2.2.1); (try have _a := kk.2.2.2.2.2.2.1.1); (try have _a := kk.2.2.2.2.2.2.1.2.1); (try have _a := kk.2.2.2.2.2.2.1.2.2.1); (try have _a := kk.2.2.2.2.2.2.2.1.1); (try have _a := kk.2.2.2.2.2.2.2.1.2.1); (try have _a := kk.2.2.2.2.2.2.2.1.2.2.1); (try have _a := kk.2.2.2.2.2.2.2.2.1.1); (try have _a := kk.2.2.2.2.2.2.2.2.1.2.1); (try have _a := kk.2.2.2.2.2.2.2.2.1.2.2.1); (try have _a := kk.2.2.2.2.2.2.2.2.2.1.1); (try have _a := kk.2.2.2.2.2.2.2.2.2.1.2.1); (try have _a := kk.2.2.2.2.2.2.2.2.2.1.2.2.1); (iterate 8 (first | go_big_quiet_skip | (go_big_quiet_want; (first | (go_big_quiet_op; go_big_quiet_on) | (apply Reg.quiet_run; (intro W hW; have hI : Bk.In C W := hW; go_simp; (first | done | rfl | exact ⟨rfl, rfl⟩ )); (simp only [Act.put, List.setIfInBounds_toArray, List.set_cons_zero, List.set_cons_succ]; go_big_quiet_on)) | (apply Reg.quiet_call; (intro W hW; go_simp; (first | done | rfl | exact ⟨rfl, rfl⟩)); (intro W hW; (first | (go_at_call 28; exact hC.call hW (HM.out _)) | (go_at_call 82; exact hC.call hW (HS.out _)))); (simp only [Act.put, List.setIfInBounds_toArray, List.set_cons_zero, List.set_cons_succ]; go_big_quiet_on)))))); exact wpQuiet_nil rfl)
      clear key
      intro W w2 hW hb
      have hW2 := Reg.alc_back hW hb
      have hn := Bk.Blk.made hb
      have k2 := Below.size hW
      have b2 := bl2 hW2 (by repeat (first | assumption | exact Below.refl _ _ | refine Below.setCell ?_ (by first | exact Nat.le_refl _ | (simp; done) | (simp; omega) | omega) _ | refine Below.alloc ?_ (by first | exact Nat.le_refl _ | (simp; done) | (simp; omega) | omega) _ | refine Below.drew ?_ | exact Nat.le_refl _))
      have z2 := b2.size
      repeat (rename Bk.Blk w1 _ _ _ => hq; (first | (have hq' := Bk.Blk.later hW2 hq) | skip); clear hq)
      clear hb hW hW2
      repeat (rename World.cell? w1 _ = _ => hq; clear hq)
      repeat (rename World.frozen? w1 _ = _ => hq; clear hq)
      repeat (rename Bk.Blk w2 _ _ _ => hq; (first | (have _k0 := (hq).c0; have _m0 := (hq).f0) | skip); (first | (have _k1 := (hq).c1; have _m1 := (hq).f1) | skip); (first | (have _k2 := (hq).c2; have _m2 := (hq).f2) | skip); (first | (have _k3 := (hq).c3; have _m3 := (hq).f3) | skip); have _z := (hq).lt; have hk := Bk.Kept.mk hq; clear hq)
      repeat (rename Bk.Kept (Bk.Blk w2 _ _ _) => hq; have hq' := hq.out; clear hq)
      simp only [List.drop_succ_cons, List.drop_zero, Act.put, List.setIfInBounds_toArray, List.set_cons_zero, List.set_cons_succ, Reg.ptr]
      generalize W.heap.size = g2 at *
      go_wp2_with fail
      go_region
      go_wp2_with fail
      simp [bodyPost, results, Tryd.results41, go_sem, *]
      exact apost HP.out (by repeat (first | assumption | exact Below.refl _ _ | refine Below.setCell ?_ (by first | exact Nat.le_refl _ | (simp; done) | (simp; omega) | omega) _ | refine Below.alloc ?_ (by first | exact Nat.le_refl _ | (simp; done) | (simp; omega) | omega) _ | refine Below.drew ?_ | exact Nat.le_refl _))
    · have HP := Lib.hid (am_over he hok)
      have HG := Lib.hid hok
      clear hd hv64 he hab hok hg
      go_enter Tryd.func41, Tryd.ntmps41
      go_wp2_with fail
      refine (HD.out _ ).mono ?_
      rintro e w1 ⟨rfl, hb1⟩
      have b1 : Below w.heap.size w w1 := bl2 hb1 (by repeat (first | assumption | exact Below.refl _ _ | refine Below.setCell ?_ (by first | exact Nat.le_refl _ | (simp; done) | (simp; omega) | omega) _ | refine Below.alloc ?_ (by first | exact Nat.le_refl _ | (simp; done) | (simp; omega) | omega) _ | refine Below.drew ?_ | exact Nat.le_refl _))
      have z1 := b1.size
      repeat (rename Bk.Blk w _ _ _ => hq; (first | (have hq' := Bk.Blk.carry hq hb1 (by (repeat (first | with_reducible refine Bk.Blk.drew ?_ | with_reducible refine Bk.Blk.set_same ?_ | with_reducible refine Bk.Blk.set_ne ?_ (by omega) | with_reducible refine Bk.Blk.alloc ?_)); (with_reducible exact hq))) | (have hq' := Bk.Blk.later hb1 (Bk.Blk.set2 hq)) | skip); clear hq)
      try (have hn := Bk.Blk.later (g := (w).heap.size) hb1 (by first | with_reducible exact Bk.Blk.nw10 | with_reducible exact Bk.Blk.nw20 | with_reducible exact Bk.Blk.nw21 | with_reducible exact Bk.Blk.nw30 | with_reducible exact Bk.Blk.nw31 | with_reducible exact Bk.Blk.nw32 | with_reducible exact Bk.Blk.nw40 | with_reducible exact Bk.Blk.nw41 | with_reducible exact Bk.Blk.nw42 | with_reducible exact Bk.Blk.nw43))
      try (have hn := Bk.Blk.later (g := (w).heap.size + 1) hb1 (by first | with_reducible exact Bk.Blk.nw10 | with_reducible exact Bk.Blk.nw20 | with_reducible exact Bk.Blk.nw21 | with_reducible exact Bk.Blk.nw30 | with_reducible exact Bk.Blk.nw31 | with_reducible exact Bk.Blk.nw32 | with_reducible exact Bk.Blk.nw40 | with_reducible exact Bk.Blk.nw41 | with_reducible exact Bk.Blk.nw42 | with_reducible exact Bk.Blk.nw43))
      try (have hn := Bk.Blk.later (g := (w).heap.size + 2) hb1 (by first | with_reducible exact Bk.Blk.nw10 | with_reducible exact Bk.Blk.nw20 | with_reducible exact Bk.Blk.nw21 | with_reducible exact Bk.Blk.nw30 | with_reducible exact Bk.Blk.nw31 | with_reducible exact Bk.Blk.nw32 | with_reducible exact Bk.Blk.nw40 | with_reducible exact Bk.Blk.nw41 | with_reducible exact Bk.Blk.nw42 | with_reducible exact Bk.Blk.nw43))
      try (have hn := Bk.Blk.later (g := (w).heap.size + 3) hb1 (by first | with_reducible exact Bk.Blk.nw10 | with_reducible exact Bk.Blk.nw20 | with_reducible exact Bk.Blk.nw21 | with_reducible exact Bk.Blk.nw30 | with_reducible exact Bk.Blk.nw31 | with_reducible exact Bk.Blk.nw32 | with_reducible exact Bk.Blk.nw40 | with_reducible exact Bk.Blk.nw41 | with_reducible exact Bk.Blk.nw42 | with_reducible exact Bk.Blk.nw43))
      clear hb1
      repeat (rename World.cell? w _ = _ => hq; clear hq)
      repeat (rename World.frozen? w _ = _ => hq; clear hq)
      repeat (rename Bk.Blk w1 _ _ _ => hq; (first | (have _k0 := (hq).c0; have _m0 := (hq).f0) | skip); (first | (have _k1 := (hq).c1; have _m1 := (hq).f1) | skip); (first | (have _k2 := (hq).c2; have _m2 := (hq).f2) | skip); (first | (have _k3 := (hq).c3; have _m3 := (hq).f3) | skip); have _z := (hq).lt; have hk := Bk.Kept.mk hq; clear hq)
      repeat (rename Bk.Kept (Bk.Blk w1 _ _ _) => hq; have hq' := hq.out; clear hq)
      go_wp2_with fail
      refine (rgood_no _ _ HG.out).mono ?_
      rintro e w' ⟨rfl, rfl⟩
      go_wp2_with fail
      simp [bodyPost, results, Tryd.results41, go_sem, *]
      exact apost0 HP.out (by repeat (first | assumption | exact Below.refl _ _ | refine Below.setCell ?_ (by first | exact Nat.le_refl _ | (simp; done) | (simp; omega) | omega) _ | refine Below.alloc ?_ (by first | exact Nat.le_refl _ | (simp; done) | (simp; omega) | omega) _ | refine Below.drew ?_ | exact Nat.le_refl _))
  · have HP := Lib.hid (am_bad he)
    have HD := Lib.hid hd
    have hne : (rdE g 1603080000000 m != 0) = true := bne_iff_ne.2 he
    clear hd hv64 he hg
    go_enter Tryd.func41, Tryd.ntmps41
    go_wp2_with fail
    refine (HD.out _ ).mono ?_
    rintro e w1 ⟨rfl, hb1⟩
    have b1 : Below w.heap.size w w1 := bl2 hb1 (by repeat (first | assumption | exact Below.refl _ _ | refine Below.setCell ?_ (by first | exact Nat.le_refl _ | (simp; done) | (simp; omega) | omega) _ | refine Below.alloc ?_ (by first | exact Nat.le_refl _ | (simp; done) | (simp; omega) | omega) _ | refine Below.drew ?_ | exact Nat.le_refl _))
    have z1 := b1.size
    repeat (rename Bk.Blk w _ _ _ => hq; (first | (have hq' := Bk.Blk.carry hq hb1 (by (repeat (first | with_reducible refine Bk.Blk.drew ?_ | with_reducible refine Bk.Blk.set_same ?_ | with_reducible refine Bk.Blk.set_ne ?_ (by omega) | with_reducible refine Bk.Blk.alloc ?_)); (with_reducible exact hq))) | (have hq' := Bk.Blk.later hb1 (Bk.Blk.set2 hq)) | skip); clear hq)
    try (have hn := Bk.Blk.later (g := (w).heap.size) hb1 (by first | with_reducible exact Bk.Blk.nw10 | with_reducible exact Bk.Blk.nw20 | with_reducible exact Bk.Blk.nw21 | with_reducible exact Bk.Blk.nw30 | with_reducible exact Bk.Blk.nw31 | with_reducible exact Bk.Blk.nw32 | with_reducible exact Bk.Blk.nw40 | with_reducible exact Bk.Blk.nw41 | with_reducible exact Bk.Blk.nw42 | with_reducible exact Bk.Blk.nw43))
    try (have hn := Bk.Blk.later (g := (w).heap.size + 1) hb1 (by first | with_reducible exact Bk.Blk.nw10 | with_reducible exact Bk.Blk.nw20 | with_reducible exact Bk.Blk.nw21 | with_reducible exact Bk.Blk.nw30 | with_reducible exact Bk.Blk.nw31 | with_reducible exact Bk.Blk.nw32 | with_reducible exact Bk.Blk.nw40 | with_reducible exact Bk.Blk.nw41 | with_reducible exact Bk.Blk.nw42 | with_reducible exact Bk.Blk.nw43))
    try (have hn := Bk.Blk.later (g := (w).heap.size + 2) hb1 (by first | with_reducible exact Bk.Blk.nw10 | with_reducible exact Bk.Blk.nw20 | with_reducible exact Bk.Blk.nw21 | with_reducible exact Bk.Blk.nw30 | with_reducible exact Bk.Blk.nw31 | with_reducible exact Bk.Blk.nw32 | with_reducible exact Bk.Blk.nw40 | with_reducible exact Bk.Blk.nw41 | with_reducible exact Bk.Blk.nw42 | with_reducible exact Bk.Blk.nw43))
    try (have hn := Bk.Blk.later (g := (w).heap.size + 3) hb1 (by first | with_reducible exact Bk.Blk.nw10 | with_reducible exact Bk.Blk.nw20 | with_reducible exact Bk.Blk.nw21 | with_reducible exact Bk.Blk.nw30 | with_reducible exact Bk.Blk.nw31 | with_reducible exact Bk.Blk.nw32 | with_reducible exact Bk.Blk.nw40 | with_reducible exact Bk.Blk.nw41 | with_reducible exact Bk.Blk.nw42 | with_reducible exact Bk.Blk.nw43))
    clear hb1
    repeat (rename World.cell? w _ = _ => hq; clear hq)
    repeat (rename World.frozen? w _ = _ => hq; clear hq)
    repeat (rename Bk.Blk w1 _ _ _ => hq; (first | (have _k0 := (hq).c0; have _m0 := (hq).f0) | skip); (first | (have _k1 := (hq).c1; have _m1 := (hq).f1) | skip); (first | (have _k2 := (hq).c2; have _m2 := (hq).f2) | skip); (first | (have _k3 := (hq).c3; have _m3 := (hq).f3) | skip); have _z := (hq).lt; have hk := Bk.Kept.mk hq; clear hq)
    repeat (rename Bk.Kept (Bk.Blk w1 _ _ _) => hq; have hq' := hq.out; clear hq)
    go_wp2_with fail
    simp [bodyPost, results, Tryd.results41, go_sem, *]
    exact apost0 HP.out (by repeat (first | assumption | exact Below.refl _ _ | refine Below.setCell ?_ (by first | exact Nat.le_refl _ | (simp; done) | (simp; omega) | omega) _ | refine Below.alloc ?_ (by first | exact Nat.le_refl _ | (simp; done) | (simp; omega) | omega) _ | refine Below.drew ?_ | exact Nat.le_refl _))

end Go.Proofs.YtjmgahdjojdanaaDoor.Rd
