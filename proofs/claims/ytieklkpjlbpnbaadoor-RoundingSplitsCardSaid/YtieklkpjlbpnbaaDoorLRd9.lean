/-
  The walk of the statement RoundingSplits.
-/
import Derived.Test.YtieklkpjlbpnbaaDoorLRd8
namespace Go.Proofs.YtieklkpjlbpnbaaDoor.Sp
open Go.RowKit
open Go.Proofs.YtieklkpjlbpnbaaDoor
open Go.Proofs.YtieklkpjlbpnbaaDoor.Wm Go.Proofs.YtieklkpjlbpnbaaDoor.Wt Go.Proofs.YtieklkpjlbpnbaaDoor.Rd

/-- Where the examination of the parts stands. -/
def SL (w : World) (g1 : Nat) (o : List Int) (g : Nat) (s9 s10 : Value) (W : World) : Prop := ∃ j : Nat, j + g = o.length ∧ s10 = .int .i64 j ∧ s9 = .int .i64 (sm (o.take j)) ∧ Bk.Blk W g1 (ints o) 3 ∧ Below w.heap.size w W
set_option maxHeartbeats 4000000 in
theorem splits_none (a : Int) (p : Option Addr) (cap : Nat) (w : World) (hS : Stp w) : Calls Tryd.prog 7 #[.int .i64 a, .slice p 0 cap] w fun e w' => e = .returned (.bool true) ∧ Below w.heap.size w w' := by
  have HL := Lib.hid (fun (W : World) (hS : Stp W) => live_any W hS)
  have hn : ¬ rng [] := fun h => by have := h.1.1; simp at this
  have ct := rtotal_nil p cap w
  rw [(t_no hn).1, (t_no hn).2] at ct
  have CT := Lib.hid ct
  clear ct hn
  have H1 := Lib.hid (split_nil a p cap w)
  go_enter Tryd.func7, Tryd.ntmps7
  go_wp2_with fail
  refine (CT.out).mono ?_
  rintro e w' ⟨rfl, rfl⟩
  go_wp2_with fail
  refine (H1.out).mono ?_
  rintro e w' ⟨rfl, rfl⟩
  go_wp2_with fail
  refine (HL.out _ hS).mono ?_
  rintro e w' ⟨rfl, hb⟩
  go_wp2_with fail
  go_ret
  exact ⟨rfl, hb⟩
set_option maxRecDepth 100000 in
set_option maxHeartbeats 16000000 in
theorem splits_row (a : Int) (b off cap : Nat) (ws : List Int) (w : World) (hS : Stp w) (haI : I64 a) (hne : 0 < ws.length) (hm : ws.length ≤ 9223372036854775807) (hc : ∀ j, j < ws.length → w.cell? ⟨b, off + j, none⟩ = some (.int .i64 (ws.getD j 0))) :
    Calls Tryd.prog 7 #[.int .i64 a, .slice (some ⟨b, off, none⟩) ws.length cap] w fun e w' => e = .returned (.bool true) ∧ Below w.heap.size w w' := by
  have HL := Lib.hid (fun (W : World) (hS : Stp W) => live_any W hS)
  have b0 := Below.refl w.heap.size w
  have CT := Lib.hid (rtotal_any b off cap ws w hne hm hc)
  have H1 := Lib.hid (split_any a b off cap ws w hne hm hc)
  have HC := Lib.hid hc
  clear hc
  by_cases hl : 100 < ws.length
  · go_enter Tryd.func7, Tryd.ntmps7
    go_wp2_with fail
    refine (HL.out _ hS).mono ?_
    rintro e w1 ⟨rfl, hb1⟩
    have b1 : Below w.heap.size w w1 := bl2 hb1 (by repeat (first | assumption | exact Below.refl _ _ | refine Below.setCell ?_ (by first | exact Nat.le_refl _ | (simp; done) | (simp; omega) | omega) _ | refine Below.alloc ?_ (by first | exact Nat.le_refl _ | (simp; done) | (simp; omega) | omega) _ | refine Below.drew ?_ | exact Nat.le_refl _))
    have z1 := b1.size
    repeat (rename Bk.Blk w _ _ _ => hq; (first | (have hq' := Bk.Blk.carry hq hb1 (by (repeat (first | with_reducible refine Bk.Blk.drew ?_ | with_reducible refine Bk.Blk.set_same ?_ | with_reducible refine Bk.Blk.set_ne ?_ (by omega) | with_reducible refine Bk.Blk.alloc ?_)); (with_reducible exact hq))) | (have hq' := Bk.Blk.later hb1 (Bk.Blk.set2 hq)) | skip); clear hq)
    try (have hn := Bk.Blk.later (g := (w).heap.size) hb1 (by first | with_reducible exact Bk.Blk.nw10 | with_reducible exact Bk.Blk.nw20 | with_reducible exact Bk.Blk.nw21 | with_reducible exact Bk.Blk.nw30 | with_reducible exact Bk.Blk.nw31 | with_reducible exact Bk.Blk.nw32 | with_reducible exact Bk.Blk.nw40 | with_reducible exact Bk.Blk.nw41 | with_reducible exact Bk.Blk.nw42 | with_reducible exact Bk.Blk.nw43))
    try (have hn := Bk.Blk.later (g := (w).heap.size + 1) hb1 (by first | with_reducible exact Bk.Blk.nw10 | with_reducible exact Bk.Blk.nw20 | with_reducible exact Bk.Blk.nw21 | with_reducible exact Bk.Blk.nw30 | with_reducible exact Bk.Blk.nw31 | with_reducible exact Bk.Blk.nw32 | with_reducible exact Bk.Blk.nw40 | with_reducible exact Bk.Blk.nw41 | with_reducible exact Bk.Blk.nw42 | with_reducible exact Bk.Blk.nw43))
    try (have hn := Bk.Blk.later (g := (w).heap.size + 2) hb1 (by first | with_reducible exact Bk.Blk.nw10 | with_reducible exact Bk.Blk.nw20 | with_reducible exact Bk.Blk.nw21 | with_reducible exact Bk.Blk.nw30 | with_reducible exact Bk.Blk.nw31 | with_reducible exact Bk.Blk.nw32 | with_reducible exact Bk.Blk.nw40 | with_reducible exact Bk.Blk.nw41 | with_reducible exact Bk.Blk.nw42 | with_reducible exact Bk.Blk.nw43))
    try (have hn := Bk.Blk.later (g := (w).heap.size + 3) hb1 (by first | with_reducible exact Bk.Blk.nw10 | with_reducible exact Bk.Blk.nw20 | with_reducible exact Bk.Blk.nw21 | with_reducible exact Bk.Blk.nw30 | with_reducible exact Bk.Blk.nw31 | with_reducible exact Bk.Blk.nw32 | with_reducible exact Bk.Blk.nw40 | with_reducible exact Bk.Blk.nw41 | with_reducible exact Bk.Blk.nw42 | with_reducible exact Bk.Blk.nw43))
    clear hb1
    repeat (rename World.cell? w _ = _ => hq; clear hq)
    repeat (rename World.frozen? w _ = _ => hq; clear hq)
    repeat (rename Bk.Blk w1 _ _ _ => hq; (first | (have _k0 := (hq).c0; have _m0 := (hq).f0) | skip); (first | (have _k1 := (hq).c1; have _m1 := (hq).f1) | skip); (first | (have _k2 := (hq).c2; have _m2 := (hq).f2) | skip); (first | (have _k3 := (hq).c3; have _m3 := (hq).f3) | skip); have _z := (hq).lt; have hk := Bk.Kept.mk hq; clear hq)
    repeat (rename Bk.Kept (Bk.Blk w1 _ _ _) => hq; have hq' := hq.out; clear hq)
    go_wp2_with fail
    go_ret
    exact ⟨rfl, (by repeat (first | assumption | exact Below.refl _ _ | refine Below.setCell ?_ (by first | exact Nat.le_refl _ | (simp; done) | (simp; omega) | omega) _ | refine Below.alloc ?_ (by first | exact Nat.le_refl _ | (simp; done) | (simp; omega) | omega) _ | refine Below.drew ?_ | exact Nat.le_refl _))⟩
  · have hl' : ws.length ≤ 100 := by omega
    clear hl
    by_cases hok : okS a ws
    · obtain ⟨hg, hr, hs⟩ := okS_rng hok
      have hlen : (out a ws).length = ws.length := out_len a hs
      have HT := Lib.hid (show tV ws = sm ws ∧ tB ws = true from ⟨(t_yes hr).1, hok.2⟩)
      have HG := Lib.hid (fun (W : World) => rgood_yes a W hg)
      have HOK := Lib.hid hok
      have HE := Lib.hid (fun (j : Nat) (hj : j < ws.length) => out_ok hok hj)
      have HP := Lib.hid (fun (k : Nat) (hk : k ≤ ws.length) => out_part hok k hk)
      have HSUM := Lib.hid (out_sum hok)
      have hs64 := sm_le hr
      have hg' : -1000000000000 ≤ a ∧ a ≤ 1000000000000 := hg
      have HW := Lib.hid (fun (k : Nat) (hk : k < ws.length) => wt_facts hr hk)
      clear hg hr hok
      go_enter Tryd.func7, Tryd.ntmps7
      go_wp2_with fail
      refine (CT.out).mono ?_
      rintro e w' ⟨rfl, rfl⟩
      rw [HT.out.1, HT.out.2]
      generalize hsm : sm ws = S at *
      have HSM := Lib.hid hsm
      clear hsm
      go_wp2_with fail
      refine (H1.out).mono ?_
      rintro e w1 ⟨b1, ⟨_, g1, _, rfl, hk1⟩ | ⟨hno, _⟩⟩
      · generalize out a ws = o at *
        go_wp2_with fail
        refine (HG.out _).mono ?_
        rintro e w' ⟨rfl, rfl⟩
        go_wp2_with fail
        go_loopg [9, 10] o.length (SL w g1 o)
        case atStart => exact ⟨0, by omega, rfl, by simp [sm], hk1, b1⟩
        case round =>
          clear hk1 b1
          obtain ⟨j, hj, rfl, rfl, hk1, hbr⟩ := hrel
          by_cases hjl : j < ws.length
          · have e1 := (hk1.cell j).trans (ints_get (show j < o.length by omega))
            have e2 := Bk.Cel.mk (cell_later hbr (HC.out j hjl))
            have hE := HE.out j hjl
            obtain ⟨w0, w1', w2'⟩ := HW.out j hjl
            have hp0 := HP.out j (by omega)
            have hp1 := HP.out (j + 1) (by omega)
            have HTK := Lib.hid (take_succ_sm (ws := o) (k := j) (by omega))
            rw [HTK.out] at hp1
            generalize sm (o.take j) = s at *
            generalize hv : o.getD j 0 = v at *
            have HVV := Lib.hid hv
            clear hv
            generalize ws.getD j 0 = x at *
            obtain ⟨⟨v0, v1⟩, vp, vn, dlo, dhi⟩ := hE
            have HGV := Lib.hid (fun (W : World) => rgood_yes v W ⟨v0, v1⟩)
            have hax : I128 (a * x) := (mul_bd haI (show I64 x by unfold I64; omega)).1
            have hvx : I128 (v * S) := (mul_bd (show I64 v by unfold I64; omega) (show I64 S by unfold I64; omega)).1
            have HM1 := Lib.hid (fun (W : World) => rmul_any v S W (by unfold I64; omega) (by unfold I64; omega))
            have HM2 := Lib.hid (fun (W : World) => rmul_any a x W haI (by unfold I64; omega))
            have hu := fun (W : World) => rsub_any (v * S) (a * x) W hvx hax
            unfold SumPost at hu
            have hd : I128 (v * S - a * x) := by unfold I128; omega
            rw [fit_in hd, ovf_in hd] at hu
            have HU := Lib.hid hu
            have HO := Lib.hid (fun (n : Int) (W : World) (hn : I64 n) => rof_any n W hn)
            have hc1 := fun (W : World) => rcmp_any (v * S - a * x) S W
            have hc2 := fun (W : World) => rcmp_any (v * S - a * x) (-S) W
            rw [show cmp (v * S - a * x) S = -1 by unfold cmp; rw [if_neg (by omega), if_pos (by omega)]] at hc1
            rw [show cmp (v * S - a * x) (-S) = 1 by unfold cmp; rw [if_neg (by omega), if_neg (by omega)]] at hc2
            have HC1 := Lib.hid hc1
            have HC2 := Lib.hid hc2
            have hng : IntKind.i64.wrap (-S) = -S := by rw [IntKind.wrap_i64]; omega
            clear hu hc1 hc2 hax hvx hd dlo dhi w0 w1' w2'
            generalize v * S - a * x = d at *
            generalize v * S = p1 at *
            generalize a * x = p2 at *
            have e3 := Bk.Cel.mk e1
            have zq := hbr.size
            have zk1 := hk1.lt
            obtain ⟨wq, rfl⟩ : ∃ wq : World, wq = wr := ⟨_, rfl⟩
            have hvs : (v < 0 ∧ a ≤ 0) ∨ (v ≤ 0 ∧ 0 ≤ v) ∨ (0 < v ∧ 0 ≤ a) := by omega
            clear vp vn
            rcases hvs with ⟨s1, s2⟩ | ⟨s1, s2⟩ | ⟨s1, s2⟩
            all_goals
              go_wp2_with fail
              refine (HGV.out _).mono ?_
              rintro e w' ⟨rfl, rfl⟩
              go_wp2_with fail
              refine Reg.region_alloc 17 16 11 (.cells #[.int .i64 0, .int .u64 0] 24) [(15, 17)] (by kernel_rfl) (by kernel_rfl) (by kernel_rfl) (fun d _ _ _ _ h => by cases d <;> exact h) _ rfl rfl rfl (fun ρ W => by simp [go_sem, Reg.ptr]) ?_
              simp only [Reg.edges, Reg.edge]
              have key := Bk.key0 (W := wq)
              repeat (rename Bk.Blk wq _ _ _ => hq; (first | replace key := Bk.kadd key (hq).gall1 | replace key := Bk.kadd key (hq).gall2 | replace key := Bk.kadd key (hq).gall3 | replace key := Bk.kadd key (hq).gall4 | replace key := Bk.kadd key (hq).gall5 | replace key := Bk.kadd key (hq).gall6 | replace key := Bk.kadd key (hq).gall7 | replace key := Bk.kadd key (hq).gall8 | replace key := Bk.kadd key (hq).gall9 | replace key := Bk.kadd key (hq).gall10 | replace key := Bk.kadd key (hq).gall11 | replace key := Bk.kadd key (hq).gall12 | replace key := Bk.kadd key (hq).gall13 | replace key := Bk.kadd key (hq).gall14 | replace key := Bk.kadd key (hq).gall15 | replace key := Bk.kadd key (hq).gall16 | replace key := Bk.kadd key (hq).gall17 | replace key := Bk.kadd key (hq).gall18 | replace key := Bk.kadd key (hq).gall19 | replace key := Bk.kadd key (hq).gall20 | skip); have hk := Bk.Kept.mk hq; clear hq)
              repeat (rename Bk.Kept (Bk.Blk wq _ _ _) => hq; have hq' := hq.out; clear hq)
              repeat (rename Bk.Cel wq _ _ => hq; replace key := Bk.kadd key (hq).gall; have hk := Bk.Kept.mk hq; clear hq)
              repeat (rename Bk.Kept (Bk.Cel wq _ _) => hq; have hq' := hq.out; clear hq)
              apply Exists.intro
              refine ⟨?_, ?_⟩
              · (intro C hC; simp only [Reg.blank, List.take_succ_cons, List.take_zero]; have kk := key C hC; (try have _a := kk.1.1); (try have _a := kk.1.2.1); (try have _a := kk.1.2.2.1); (try have _a := kk.2.1.1); (try have _a := kk.2.1.2.1); (try have _a := kk.2.1.2.2.1); (try have _a := kk.2.2.1.1); (try have _a := kk.2.2.1.2.1); (try have _a := kk.2.2.1.2.2.1); (try have _a := kk.2.2.2.1.1); (try have _a := kk.2.2.2.1.2.1); (try have _a := kk.2.2.2.1.2.2.1); (try have _a := kk.2.2.2.2.1.1); (try have _a := kk.2.2.2.2.1.2.1); (try have _a := kk.2.2.2.2.1.2.2.1); (try have _a := kk.2.2.2.2.2.1.1); (try have _a := kk.2.2.2.2.2.1.2.1); (try have _a := kk.2.2.2.2.2.1.2.2.1); (try have _a := kk.2.2.2.2.2.2.1.1); (try have _a := kk.2.2.2.2.2.2.1.2.1); (try have _a := kk.2.2.2.2.2.2.1.2.2.1); (try have _a := kk.2.2.2.2.2.2.2.1.1); (try have _a := kk.2.2.2.2.2.2.2.1.2.1); (try have _a := kk.2.2.2.2.2.2.2.1.2.2.1); (try have _a := kk.2.2.2.2.2.2.2.2.1.1); (try have _a := kk.2.2.2.2.2.2.2.2.1.2.1); (try have _a := kk.2.2.2.2.2.2.2.2.1.2.2.1); (try have _a := kk.2.2.2.2.2.2.2.2.2.1.1); (try have _a := kk.2.2.2.2.2.2.2.2.2.1.2.1); (try have _a := kk.2.2.2.2.2.2.2.2.2.1.2.2.1); (iterate 17 (first | go_big_quiet_skip | (go_big_quiet_want; (first | (go_big_quiet_op; go_big_quiet_on) | (apply Reg.quiet_run; (intro W hW; have hI : Bk.In C W := hW; go_simp; (first | done | rfl | exact ⟨rfl, rfl⟩ )); (simp only [Act.put, List.setIfInBounds_toArray, List.set_cons_zero, List.set_cons_succ]; go_big_quiet_on)) | (apply Reg.quiet_call; (intro W hW; go_simp; (first | done | rfl | exact ⟨rfl, rfl⟩)); (intro W hW; (first | (go_at_call 19; first | with_reducible exact hC.call hW (HM1.out _) | with_reducible exact hC.call hW (HM2.out _)) | (go_at_call 28; exact hC.call hW (HU.out _)))); (simp only [Act.put, List.setIfInBounds_toArray, List.set_cons_zero, List.set_cons_succ]; go_big_quiet_on)))))); exact wpQuiet_nil rfl)
              clear key
              intro W w2 hW hb
              have hW2 := Reg.alc_back hW hb
              have hn := Bk.Blk.made hb
              have k2 := Below.size hW
              have b2 := bl2 hW2 (by repeat (first | assumption | exact Below.refl _ _ | refine Below.setCell ?_ (by first | exact Nat.le_refl _ | (simp; done) | (simp; omega) | omega) _ | refine Below.alloc ?_ (by first | exact Nat.le_refl _ | (simp; done) | (simp; omega) | omega) _ | refine Below.drew ?_ | exact Nat.le_refl _))
              have z2 := b2.size
              repeat (rename Bk.Blk wq _ _ _ => hq; (first | (have hq' := Bk.Blk.later hW2 hq) | skip); clear hq)
              clear hb hW hW2
              repeat (rename World.cell? wq _ = _ => hq; clear hq)
              repeat (rename World.frozen? wq _ = _ => hq; clear hq)
              repeat (rename Bk.Blk w2 _ _ _ => hq; (first | (have _k0 := (hq).c0; have _m0 := (hq).f0) | skip); (first | (have _k1 := (hq).c1; have _m1 := (hq).f1) | skip); (first | (have _k2 := (hq).c2; have _m2 := (hq).f2) | skip); (first | (have _k3 := (hq).c3; have _m3 := (hq).f3) | skip); have _z := (hq).lt; have hk := Bk.Kept.mk hq; clear hq)
              repeat (rename Bk.Kept (Bk.Blk w2 _ _ _) => hq; have hq' := hq.out; clear hq)
              simp only [List.drop_succ_cons, List.drop_zero, Act.put, List.setIfInBounds_toArray, List.set_cons_zero, List.set_cons_succ, Reg.ptr]
              generalize W.heap.size = g2 at *
              go_wp2_with fail
              have b3 : Below w.heap.size w (((w2).setCell ⟨g2, 0, none⟩ (.int .i64 (hi d))).setCell ⟨g2, 1, none⟩ (.int .u64 (lo d))) := (by repeat (first | assumption | exact Below.refl _ _ | refine Below.setCell ?_ (by first | exact Nat.le_refl _ | (simp; done) | (simp; omega) | omega) _ | refine Below.alloc ?_ (by first | exact Nat.le_refl _ | (simp; done) | (simp; omega) | omega) _ | refine Below.drew ?_ | exact Nat.le_refl _))
              have z3 := b3.size
              repeat (rename Bk.Blk w2 _ _ _ => hq; (first | (have hq' := Bk.Blk.carry0 (W := ((w2).setCell ⟨g2, 0, none⟩ (.int .i64 (hi d))).setCell ⟨g2, 1, none⟩ (.int .u64 (lo d))) hq (by (repeat (first | with_reducible refine Bk.Blk.drew ?_ | with_reducible refine Bk.Blk.set_same ?_ | with_reducible refine Bk.Blk.set_ne ?_ (by omega) | with_reducible refine Bk.Blk.alloc ?_)); (with_reducible exact hq))) | (have hq' := Bk.Blk.set2 (u := .int .i64 (hi d)) (v := .int .u64 (lo d)) hq) | skip); clear hq)
              generalize ((w2).setCell ⟨g2, 0, none⟩ (.int .i64 (hi d))).setCell ⟨g2, 1, none⟩ (.int .u64 (lo d)) = w3 at *
              repeat (rename World.cell? w2 _ = _ => hq; clear hq)
              repeat (rename World.frozen? w2 _ = _ => hq; clear hq)
              repeat (rename Bk.Blk w3 _ _ _ => hq; (first | (have _k0 := (hq).c0; have _m0 := (hq).f0) | skip); (first | (have _k1 := (hq).c1; have _m1 := (hq).f1) | skip); (first | (have _k2 := (hq).c2; have _m2 := (hq).f2) | skip); (first | (have _k3 := (hq).c3; have _m3 := (hq).f3) | skip); have _z := (hq).lt; have hk := Bk.Kept.mk hq; clear hq)
              repeat (rename Bk.Kept (Bk.Blk w3 _ _ _) => hq; have hq' := hq.out; clear hq)
              repeat (rename Bk.Blk w3 _ _ _ => hq; (first | (have _q0 := (hq).q0) | skip); (first | (have _q1 := (hq).q1) | skip); (first | (have _q2 := (hq).q2) | skip); (first | (have _q3 := (hq).q3) | skip); have hk := Bk.Kept.mk hq; clear hq)
              repeat (rename Bk.Kept (Bk.Blk w3 _ _ _) => hq; have hq' := hq.out; clear hq)
              refine Reg.region_quiet (by kernel_rfl) (by kernel_rfl) ?_
              iterate 13 (first | go_big_quiet_skip | (go_big_quiet_want; (first | (go_big_quiet_op; go_big_quiet_on) | (apply Reg.quiet_run; (intro W hW; skip; go_simp; (first | done | rfl | exact ⟨rfl, rfl⟩ )); (simp only [Act.put, List.setIfInBounds_toArray, List.set_cons_zero, List.set_cons_succ]; go_big_quiet_on)) | (apply Reg.quiet_call; (intro W hW; go_simp; (first | done | rfl | exact ⟨rfl, rfl⟩)); (intro W hW; (first | (go_at_call 21; exact Reg.cls_call hW (HO.out _ _ (by unfold I64; omega))) | (go_at_call 20; first | with_reducible exact Reg.cls_call hW (HC1.out _) | with_reducible exact Reg.cls_call hW (HC2.out _)))); (simp only [Act.put, List.setIfInBounds_toArray, List.set_cons_zero, List.set_cons_succ]; go_big_quiet_on)))))
              repeat (rename ∀ W', Reg.Cls w3 W' → _ => hq; clear hq)
              refine wpQuiet_nil ?_
              intro w4 hW
              have hb4 : Below (w3).heap.size w3 w4 := hW
              clear hW
              have b4 : Below w.heap.size w w4 := bl2 hb4 (by repeat (first | assumption | exact Below.refl _ _ | refine Below.setCell ?_ (by first | exact Nat.le_refl _ | (simp; done) | (simp; omega) | omega) _ | refine Below.alloc ?_ (by first | exact Nat.le_refl _ | (simp; done) | (simp; omega) | omega) _ | refine Below.drew ?_ | exact Nat.le_refl _))
              have z4 := b4.size
              repeat (rename Bk.Blk w3 _ _ _ => hq; (first | (have hq' := Bk.Blk.carry hq hb4 (by (repeat (first | with_reducible refine Bk.Blk.drew ?_ | with_reducible refine Bk.Blk.set_same ?_ | with_reducible refine Bk.Blk.set_ne ?_ (by omega) | with_reducible refine Bk.Blk.alloc ?_)); (with_reducible exact hq))) | (have hq' := Bk.Blk.later hb4 (Bk.Blk.set2 hq)) | skip); clear hq)
              try (have hn := Bk.Blk.later (g := (w3).heap.size) hb4 (by first | with_reducible exact Bk.Blk.nw10 | with_reducible exact Bk.Blk.nw20 | with_reducible exact Bk.Blk.nw21 | with_reducible exact Bk.Blk.nw30 | with_reducible exact Bk.Blk.nw31 | with_reducible exact Bk.Blk.nw32 | with_reducible exact Bk.Blk.nw40 | with_reducible exact Bk.Blk.nw41 | with_reducible exact Bk.Blk.nw42 | with_reducible exact Bk.Blk.nw43))
              try (have hn := Bk.Blk.later (g := (w3).heap.size + 1) hb4 (by first | with_reducible exact Bk.Blk.nw10 | with_reducible exact Bk.Blk.nw20 | with_reducible exact Bk.Blk.nw21 | with_reducible exact Bk.Blk.nw30 | with_reducible exact Bk.Blk.nw31 | with_reducible exact Bk.Blk.nw32 | with_reducible exact Bk.Blk.nw40 | with_reducible exact Bk.Blk.nw41 | with_reducible exact Bk.Blk.nw42 | with_reducible exact Bk.Blk.nw43))
              try (have hn := Bk.Blk.later (g := (w3).heap.size + 2) hb4 (by first | with_reducible exact Bk.Blk.nw10 | with_reducible exact Bk.Blk.nw20 | with_reducible exact Bk.Blk.nw21 | with_reducible exact Bk.Blk.nw30 | with_reducible exact Bk.Blk.nw31 | with_reducible exact Bk.Blk.nw32 | with_reducible exact Bk.Blk.nw40 | with_reducible exact Bk.Blk.nw41 | with_reducible exact Bk.Blk.nw42 | with_reducible exact Bk.Blk.nw43))
              try (have hn := Bk.Blk.later (g := (w3).heap.size + 3) hb4 (by first | with_reducible exact Bk.Blk.nw10 | with_reducible exact Bk.Blk.nw20 | with_reducible exact Bk.Blk.nw21 | with_reducible exact Bk.Blk.nw30 | with_reducible exact Bk.Blk.nw31 | with_reducible exact Bk.Blk.nw32 | with_reducible exact Bk.Blk.nw40 | with_reducible exact Bk.Blk.nw41 | with_reducible exact Bk.Blk.nw42 | with_reducible exact Bk.Blk.nw43))
              clear hb4
              repeat (rename World.cell? w3 _ = _ => hq; clear hq)
              repeat (rename World.frozen? w3 _ = _ => hq; clear hq)
              repeat (rename Bk.Blk w4 _ _ _ => hq; (first | (have _k0 := (hq).c0; have _m0 := (hq).f0) | skip); (first | (have _k1 := (hq).c1; have _m1 := (hq).f1) | skip); (first | (have _k2 := (hq).c2; have _m2 := (hq).f2) | skip); (first | (have _k3 := (hq).c3; have _m3 := (hq).f3) | skip); have _z := (hq).lt; have hk := Bk.Kept.mk hq; clear hq)
              repeat (rename Bk.Kept (Bk.Blk w4 _ _ _) => hq; have hq' := hq.out; clear hq)
              rename Bk.Blk w4 g1 _ _ => hk1
              have e5 := (hk1.cell j).trans (ints_get (show j < o.length by omega))
              rw [HVV.out] at e5
              go_wp2_with fail
              go_roundg (gk - 1)
              case measure => omega
              case rel => exact ⟨j + 1, by omega, by go_num, by rw [HTK.out], hk1, (by repeat (first | assumption | exact Below.refl _ _ | refine Below.setCell ?_ (by first | exact Nat.le_refl _ | (simp; done) | (simp; omega) | omega) _ | refine Below.alloc ?_ (by first | exact Nat.le_refl _ | (simp; done) | (simp; omega) | omega) _ | refine Below.drew ?_ | exact Nat.le_refl _))⟩
          · have hjn : j = o.length := by omega
            have hsum := HSUM.out
            rw [hjn, List.take_length, hsum]
            clear hjn hsum
            go_wp2_with fail
            refine (HL.out _ (hS.of hbr)).mono ?_
            rintro e w' ⟨rfl, hb⟩
            go_wp2_with fail
            go_ret
            exact ⟨rfl, bl2 hb hbr⟩
      · exact absurd HOK.out hno
    · have HNO := Lib.hid hok
      by_cases hg : gd a
      · have ht : tB ws = false := by
          cases hv : tB ws
          · rfl
          · exact absurd ⟨hg, hv⟩ hok
        have HT := Lib.hid ht
        clear hg ht hok
        go_enter Tryd.func7, Tryd.ntmps7
        go_wp2_with fail
        refine (CT.out).mono ?_
        rintro e w' ⟨rfl, rfl⟩
        rw [HT.out]
        generalize tV ws = tv at *
        go_wp2_with fail
        refine (H1.out).mono ?_
        rintro e w1 ⟨b1, ⟨hok, _⟩ | ⟨_, rfl⟩⟩
        · exact absurd hok HNO.out
        · go_wp2_with fail
          refine (HL.out _ (hS.of b1)).mono ?_
          rintro e w' ⟨rfl, hb⟩
          go_wp2_with fail
          go_ret
          exact ⟨rfl, bl2 hb b1⟩
      · have CG := Lib.hid (fun (W : World) => rgood_no a W hg)
        clear hg hok
        go_enter Tryd.func7, Tryd.ntmps7
        go_wp2_with fail
        refine (CT.out).mono ?_
        rintro e w' ⟨rfl, rfl⟩
        generalize tV ws = tv at *
        generalize tB ws = tb at *
        cases tb
        all_goals
          go_wp2_with fail
          refine (H1.out).mono ?_
          rintro e w1 ⟨b1, ⟨hok, _⟩ | ⟨_, rfl⟩⟩
          · exact absurd hok HNO.out
          · go_wp2_with fail
            first
              | (refine (CG.out _).mono ?_; rintro e w' ⟨rfl, rfl⟩; go_wp2_with fail; refine (HL.out _ (hS.of b1)).mono ?_; rintro e w' ⟨rfl, hb⟩; go_wp2_with fail; go_ret; exact ⟨rfl, bl2 hb b1⟩)
              | (refine (HL.out _ (hS.of b1)).mono ?_; rintro e w' ⟨rfl, hb⟩; go_wp2_with fail; go_ret; exact ⟨rfl, bl2 hb b1⟩)
theorem splits_walk (a : Int) (p : Option Addr) (cap : Nat) (ws : List Int) (ha : (Lit.int .i64 a).wf = true) (w : World) (hi : Bk.IntsIn w p ws) (hS : Stp w) :
    Calls Tryd.prog 7 #[.int .i64 a, .slice p ws.length cap] w fun e w' => e = .returned (.bool true) ∧ Below w.heap.size w w' := by
  rcases Nat.eq_zero_or_pos ws.length with h | h
  · rw [h]; exact splits_none a p cap w hS
  · obtain ⟨b, off, rfl, hc⟩ := hi.2 h
    exact splits_row a b off cap ws w hS (wf_i64 ha) h hi.1 hc
end Go.Proofs.YtieklkpjlbpnbaaDoor.Sp
