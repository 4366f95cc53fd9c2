/-
  Check of standing orders: the program's and the reference's.
-/
import Derived.Test.YtdlmoijeflchgaaSo1
import Derived.Deep.CutBlock
namespace Go.Proofs.Ytdlmoijeflchgaa.So
open Go Go.RowKit
open Go.Proofs.Ytdlmoijeflchgaa
open Go.Proofs.Ytdlmoijeflchgaa.Kl (upto upto_yes upto_no byt byt_get hasB NmR nm_step)
open Go.Proofs.Ytdlmoijeflchgaa.Ln (bl2)
set_option linter.unusedSimpArgs false
set_option linter.unusedVariables false
set_option maxRecDepth 100000

theorem txB_no {s : ByteArray} {i : Nat} (hi : i < s.size) (h : prB (byt s i) = false) : txB s = false := by
  unfold txB
  rw [upto_no hi h, Bool.and_false]
theorem txB_long {s : ByteArray} (h : ¬ s.size ≤ 64) : txB s = false := by
  unfold txB
  rw [decide_eq_false h]; rfl
theorem txB_all {s : ByteArray} (h : ∀ j, j < s.size → prB (byt s j) = true) : txB s = decide (s.size ≤ 64) := by
  unfold txB
  rw [upto_yes h, Bool.and_true]
def ev5 (n : Int) : Bool := decide (n = 0 ∨ n = 1 ∨ n = 3 ∨ n = 6 ∨ n = 12)
theorem has5 (n : Int) : hasB [0, 1, 3, 6, 12] n = ev5 n := by
  unfold hasB ev5 upto
  simp only [List.length_cons, List.length_nil, show List.range (0 + 1 + 1 + 1 + 1 + 1) = [0, 1, 2, 3, 4] from rfl, List.all_cons, List.all_nil, List.getD_cons_zero, List.getD_cons_succ]
  by_cases h0 : n = 0
  · subst h0; decide
  by_cases h1 : n = 1
  · subst h1; decide
  by_cases h3 : n = 3
  · subst h3; decide
  by_cases h6 : n = 6
  · subst h6; decide
  by_cases h12 : n = 12
  · subst h12; decide
  rw [decide_eq_false (by omega)]
  simp only [bne_iff_ne, Bool.and_eq_true, Bool.not_eq_false', ne_eq]
  simp [Ne.symm h0, Ne.symm h1, Ne.symm h3, Ne.symm h6, Ne.symm h12]
set_option maxHeartbeats 4000000 in
theorem text_any (s : ByteArray) (w : World) (hs : s.size ≤ maxLen) : Calls Try.prog 27 #[.string s] w fun e w' => e = .returned (.bool (txB s)) ∧ w = w' := by
  have hm : s.size ≤ 9223372036854775807 := by unfold maxLen at hs; omega
  clear hs
  go_enter Try.func27, Try.ntmps27
  go_wp2_with fail
  go_loopg [6] s.size (NmR w s (fun j => prB (byt s j)))
  case atStart => exact ⟨0, by omega, rfl, fun j hj => by omega, rfl⟩
  case round =>
    obtain ⟨i, hi, rfl, hall, rfl⟩ := hrel
    have HA := Lib.hid hall
    clear hall
    by_cases hlt : i < s.size
    · have hb := byt_get hlt
      have hc := (s[i]'hlt).toNat_lt
      by_cases a1 : byt s i < 32
      · have HF := Lib.hid (txB_no hlt (show prB (byt s i) = false by unfold prB; simp; omega))
        go_wp2_with fail
        go_ret
        exact ⟨by rw [HF.out]; try rfl, rfl⟩
      · by_cases a2 : 126 < byt s i
        · have HF := Lib.hid (txB_no hlt (show prB (byt s i) = false by unfold prB; simp; omega))
          go_wp2_with fail
          go_ret
          exact ⟨by rw [HF.out]; try rfl, rfl⟩
        · have HP := Lib.hid (show (fun j => prB (byt s j)) i = true by show prB (byt s i) = true; unfold prB; simp; omega)
          go_wp2_with fail
          go_roundg (gk - 1)
          case measure => omega
          case rel => exact ⟨i + 1, by omega, by go_num, nm_step HA.out HP.out, rfl⟩
    · have hin : i = s.size := by omega
      have HU := Lib.hid (txB_all (s := s) (fun j hj => HA.out j (by omega)))
      clear hin
      by_cases e1 : s.size ≤ 64
      · go_wp2_with fail
        go_ret
        exact ⟨by rw [HU.out]; exact Dt.ret_bool (Bool.eq_iff_iff.2 (by simp; omega)), rfl⟩
      · go_wp2_with fail
        go_ret
        exact ⟨by rw [HU.out]; exact Dt.ret_bool (Bool.eq_iff_iff.2 (by simp; omega)), rfl⟩
set_option maxHeartbeats 4000000 in
theorem printed_any (s : ByteArray) (w : World) (hs : s.size ≤ maxLen) : Calls Try.prog 29 #[.string s, .int .i64 64, .int .u8 32] w fun e w' => e = .returned (.bool (txB s)) ∧ w = w' := by
  have hm : s.size ≤ 9223372036854775807 := by unfold maxLen at hs; omega
  clear hs
  by_cases e1 : s.size ≤ 64
  · go_enter Try.func29, Try.ntmps29
    go_wp2_with fail
    go_loopg [7] s.size (NmR w s (fun j => prB (byt s j)))
    case atStart => exact ⟨0, by omega, rfl, fun j hj => by omega, rfl⟩
    case round =>
      obtain ⟨i, hi, rfl, hall, rfl⟩ := hrel
      have HA := Lib.hid hall
      clear hall
      by_cases hlt : i < s.size
      · have hb := byt_get hlt
        have hc := (s[i]'hlt).toNat_lt
        by_cases a1 : byt s i < 32
        · have HF := Lib.hid (txB_no hlt (show prB (byt s i) = false by unfold prB; simp; omega))
          go_wp2_with fail
          go_ret
          exact ⟨by rw [HF.out]; try rfl, rfl⟩
        · by_cases a2 : 126 < byt s i
          · have HF := Lib.hid (txB_no hlt (show prB (byt s i) = false by unfold prB; simp; omega))
            go_wp2_with fail
            go_ret
            exact ⟨by rw [HF.out]; try rfl, rfl⟩
          · have HP := Lib.hid (show (fun j => prB (byt s j)) i = true by show prB (byt s i) = true; unfold prB; simp; omega)
            go_wp2_with fail
            go_roundg (gk - 1)
            case measure => omega
            case rel => exact ⟨i + 1, by omega, by go_num, nm_step HA.out HP.out, rfl⟩
      · have hin : i = s.size := by omega
        have HU := Lib.hid (txB_all (s := s) (fun j hj => HA.out j (by omega)))
        clear hin
        go_wp2_with fail
        go_ret
        exact ⟨by rw [HU.out]; exact Dt.ret_bool (Bool.eq_iff_iff.2 (by simp; omega)), rfl⟩
  · have HF := Lib.hid (txB_long e1)
    go_enter Try.func29, Try.ntmps29
    go_wp2_with fail
    go_ret
    exact ⟨by rw [HF.out]; try rfl, rfl⟩
set_option maxHeartbeats 16000000 in
theorem odchk_any (o : Od) (w : World) (hs : o.tx.size ≤ maxLen) : Calls Try.prog 10 #[(.agg #[.int .i64 (o).id, .int .i64 (o).fr, .int .i64 (o).too, .int .i64 (o).am, .int .i64 (o).day, .int .i64 (o).ev, .int .i64 (o).an, .int .i64 (o).un, .int .i64 (o).tr, .string (o).tx])] w fun e w' => e = .returned (.int .i64 (odE o)) ∧ Below w.heap.size w w' := by
  have cw : Below w.heap.size w (w.alloc (.cells #[.int .i64 (o).id, .int .i64 (o).fr, .int .i64 (o).too, .int .i64 (o).am, .int .i64 (o).day, .int .i64 (o).ev, .int .i64 (o).an, .int .i64 (o).un, .int .i64 (o).tr, .string (o).tx] 23)) := (Below.refl _ _).alloc (Nat.le_refl _) _
  have k0 : Bk.Blk (w.alloc (.cells #[.int .i64 (o).id, .int .i64 (o).fr, .int .i64 (o).too, .int .i64 (o).am, .int .i64 (o).day, .int .i64 (o).ev, .int .i64 (o).an, .int .i64 (o).un, .int .i64 (o).tr, .string (o).tx] 23)) w.heap.size #[.int .i64 (o).id, .int .i64 (o).fr, .int .i64 (o).too, .int .i64 (o).am, .int .i64 (o).day, .int .i64 (o).ev, .int .i64 (o).an, .int .i64 (o).un, .int .i64 (o).tr, .string (o).tx] 23 := Bk.Blk.nw10
  go_enter Try.func10, Try.ntmps10
  go_upto_region 1 with fail
  generalize (w.alloc (.cells #[.int .i64 (o).id, .int .i64 (o).fr, .int .i64 (o).too, .int .i64 (o).am, .int .i64 (o).day, .int .i64 (o).ev, .int .i64 (o).an, .int .i64 (o).un, .int .i64 (o).tr, .string (o).tx] 23)) = w1 at *
  have cw1 := cw
  clear cw
  have l0 := k0.c0
  have l1 := k0.c1
  have l2 := k0.c2
  have l3 := k0.c3
  have l4 := k0.c4
  have l5 := k0.c5
  have l6 := k0.c6
  have l7 := k0.c7
  have l8 := k0.c8
  have l9 := k0.c9
  by_cases n1 : o.id < 1
  · have HF := Lib.hid (odE_id (o := o) (by omega))
    go_wp2_with fail
    go_ret
    exact ⟨by rw [HF.out]; try rfl, cw1⟩
  · by_cases n2 : o.fr < 1000
    · have HF := Lib.hid (odE_id (o := o) (by omega))
      go_wp2_with fail
      go_ret
      exact ⟨by rw [HF.out]; try rfl, cw1⟩
    · by_cases n3 : o.too < 1000
      · have HF := Lib.hid (odE_id (o := o) (by omega))
        go_wp2_with fail
        go_ret
        exact ⟨by rw [HF.out]; try rfl, cw1⟩
      · by_cases n4 : o.fr = o.too
        · have gn4 : (o.fr == o.too) = true := by simp [n4]
          have Hn4 := Lib.hid n4
          clear n4
          have HF := Lib.hid (odE_id (o := o) (by have := Hn4.out; omega))
          go_wp2_with fail
          go_ret
          exact ⟨by rw [HF.out]; try rfl, cw1⟩
        · have gn4 : (o.fr == o.too) = false := by simp [n4]
          by_cases n5 : o.am < 1
          · have HF := Lib.hid (odE_id (o := o) (by omega))
            go_wp2_with fail
            go_ret
            exact ⟨by rw [HF.out]; try rfl, cw1⟩
          · by_cases n6 : 1000000000000 < o.am
            · have HF := Lib.hid (odE_id (o := o) (by omega))
              go_wp2_with fail
              go_ret
              exact ⟨by rw [HF.out]; try rfl, cw1⟩
            · go_wp2_with fail
              by_cases d1 : 0 ≤ o.day ∧ o.day ≤ 73048
              · refine (Dt.valid_yes _ _ d1.1 d1.2).mono ?_
                rintro e w' ⟨rfl, rfl⟩
                go_wp2_with fail
                by_cases d2 : 0 ≤ o.un ∧ o.un ≤ 73048
                · refine (Dt.valid_yes _ _ d2.1 d2.2).mono ?_
                  rintro e w' ⟨rfl, rfl⟩
                  by_cases d3 : o.un < o.day
                  · have HF := Lib.hid (odE_dy (o := o) (by omega))
                    go_wp2_with fail
                    go_ret
                    exact ⟨by rw [HF.out]; try rfl, cw1⟩
                  · have h5 : Bk.IntsIn (w1.alloc (.cells #[.int .i64 0, .int .i64 1, .int .i64 3, .int .i64 6, .int .i64 12] 3)) (some ⟨w1.heap.size, 0, none⟩) [0, 1, 3, 6, 12] := ⟨by decide, fun _ => ⟨_, 0, rfl, fun j hj => by
                      have hb : Bk.Blk (w1.alloc (.cells #[.int .i64 0, .int .i64 1, .int .i64 3, .int .i64 6, .int .i64 12] 3)) w1.heap.size #[.int .i64 0, .int .i64 1, .int .i64 3, .int .i64 6, .int .i64 12] 3 := Bk.Blk.nw10
                      rw [hb.cell]
                      match j, hj with
                      | 0, _ => rfl
                      | 1, _ => rfl
                      | 2, _ => rfl
                      | 3, _ => rfl
                      | 4, _ => rfl⟩⟩
                    have hc5 := Kl.contains_any (some ⟨w1.heap.size, 0, none⟩) 5 [0, 1, 3, 6, 12] o.ev _ h5
                    rw [has5] at hc5
                    have cw2 : Below w.heap.size w (w1.alloc (.cells #[.int .i64 0, .int .i64 1, .int .i64 3, .int .i64 6, .int .i64 12] 3)) := cw1.alloc cw1.size _
                    have k2 := k0.alloc (o := .cells #[.int .i64 0, .int .i64 1, .int .i64 3, .int .i64 6, .int .i64 12] 3)
                    clear h5
                    have e5 := k2.c5
                    clear l5
                    have f5 := k0.c5
                    go_wp2_with fail
                    refine hc5.mono ?_
                    rintro e w2 ⟨rfl, rfl⟩
                    clear hc5 e5 f5 l0 l1 l2 l3 l4 l6 l7 l8 l9
                    replace k0 := k2
                    clear cw1 k2
                    generalize (w1.alloc (.cells #[.int .i64 0, .int .i64 1, .int .i64 3, .int .i64 6, .int .i64 12] 3)) = w2 at *
                    have l0 := k0.c0
                    have l1 := k0.c1
                    have l2 := k0.c2
                    have l3 := k0.c3
                    have l4 := k0.c4
                    have l5 := k0.c5
                    have l6 := k0.c6
                    have l7 := k0.c7
                    have l8 := k0.c8
                    have l9 := k0.c9
                    cases hE : ev5 o.ev
                    · have HF := Lib.hid (odE_ev (o := o) (fun h => by have := of_decide_eq_false hE; omega))
                      go_wp2_with fail
                      go_ret
                      exact ⟨by rw [HF.out]; try rfl, cw2⟩
                    · have hev := of_decide_eq_true hE
                      by_cases a1 : o.an < 1
                      · have HF := Lib.hid (odE_ev (o := o) (by omega))
                        go_wp2_with fail
                        go_ret
                        exact ⟨by rw [HF.out]; try rfl, cw2⟩
                      · by_cases a2 : 31 < o.an
                        · have HF := Lib.hid (odE_ev (o := o) (by omega))
                          go_wp2_with fail
                          go_ret
                          exact ⟨by rw [HF.out]; try rfl, cw2⟩
                        · by_cases t1 : o.tr < 0
                          · have HF := Lib.hid (odE_tr (o := o) (by omega))
                            go_wp2_with fail
                            go_ret
                            exact ⟨by rw [HF.out]; try rfl, cw2⟩
                          · by_cases t2 : 3 < o.tr
                            · have HF := Lib.hid (odE_tr (o := o) (by omega))
                              go_wp2_with fail
                              go_ret
                              exact ⟨by rw [HF.out]; try rfl, cw2⟩
                            · go_wp2_with fail
                              refine (text_any o.tx _ hs).mono ?_
                              rintro e w' ⟨rfl, rfl⟩
                              cases hx : txB o.tx
                              · have HF := Lib.hid (odE_tx (o := o) hx)
                                go_wp2_with fail
                                go_ret
                                exact ⟨by rw [HF.out]; try rfl, cw2⟩
                              · have HF := Lib.hid (Ok.odE (o := o) ⟨⟨by omega, by omega, by omega, n4, by omega, by omega⟩, ⟨⟨by omega, by omega⟩, ⟨by omega, by omega⟩, by omega⟩, hev, ⟨by omega, by omega⟩, ⟨by omega, by omega⟩, hx⟩)
                                go_wp2_with fail
                                go_ret
                                exact ⟨by rw [HF.out]; try rfl, cw2⟩
                · refine (Dt.valid_no _ _ (by omega)).mono ?_
                  rintro e w' ⟨rfl, rfl⟩
                  have HF := Lib.hid (odE_dy (o := o) (fun h => d2 h.2.1))
                  go_wp2_with fail
                  go_ret
                  exact ⟨by rw [HF.out]; try rfl, cw1⟩
              · refine (Dt.valid_no _ _ (by omega)).mono ?_
                rintro e w' ⟨rfl, rfl⟩
                have HF := Lib.hid (odE_dy (o := o) (fun h => d1 h.1))
                go_wp2_with fail
                go_ret
                exact ⟨by rw [HF.out]; try rfl, cw1⟩
set_option maxHeartbeats 16000000 in
theorem rodchk_any (o : Od) (w : World) (hs : o.tx.size ≤ maxLen) : Calls Try.prog 11 #[(.agg #[.int .i64 (o).id, .int .i64 (o).fr, .int .i64 (o).too, .int .i64 (o).am, .int .i64 (o).day, .int .i64 (o).ev, .int .i64 (o).an, .int .i64 (o).un, .int .i64 (o).tr, .string (o).tx])] w fun e w' => e = .returned (.int .i64 (odE o)) ∧ Below w.heap.size w w' := by
  have cw : Below w.heap.size w (w.alloc (.cells #[.int .i64 (o).id, .int .i64 (o).fr, .int .i64 (o).too, .int .i64 (o).am, .int .i64 (o).day, .int .i64 (o).ev, .int .i64 (o).an, .int .i64 (o).un, .int .i64 (o).tr, .string (o).tx] 23)) := (Below.refl _ _).alloc (Nat.le_refl _) _
  have k0 : Bk.Blk (w.alloc (.cells #[.int .i64 (o).id, .int .i64 (o).fr, .int .i64 (o).too, .int .i64 (o).am, .int .i64 (o).day, .int .i64 (o).ev, .int .i64 (o).an, .int .i64 (o).un, .int .i64 (o).tr, .string (o).tx] 23)) w.heap.size #[.int .i64 (o).id, .int .i64 (o).fr, .int .i64 (o).too, .int .i64 (o).am, .int .i64 (o).day, .int .i64 (o).ev, .int .i64 (o).an, .int .i64 (o).un, .int .i64 (o).tr, .string (o).tx] 23 := Bk.Blk.nw10
  go_enter Try.func11, Try.ntmps11
  go_upto_region 1 with fail
  generalize (w.alloc (.cells #[.int .i64 (o).id, .int .i64 (o).fr, .int .i64 (o).too, .int .i64 (o).am, .int .i64 (o).day, .int .i64 (o).ev, .int .i64 (o).an, .int .i64 (o).un, .int .i64 (o).tr, .string (o).tx] 23)) = w1 at *
  have cw1 := cw
  clear cw
  have l0 := k0.c0
  have l1 := k0.c1
  have l2 := k0.c2
  have l3 := k0.c3
  have l4 := k0.c4
  have l5 := k0.c5
  have l6 := k0.c6
  have l7 := k0.c7
  have l8 := k0.c8
  have l9 := k0.c9
  go_cut [3] from 5 to 27 (fun s3 wx => s3 = .bool (ev5 o.ev) ∧ w1 = wx)
  case first =>
    by_cases v0 : o.ev = 0
    · have gv : (o.ev == 0) = true := by simp [v0]
      have HV := Lib.hid (show true = ev5 o.ev from (decide_eq_true (by omega)).symm)
      clear v0
      go_wp2_with fail
      go_meet
      exact ⟨congrArg Value.bool HV.out, rfl⟩
    · have g0 : (o.ev == 0) = false := by simp [v0]
      by_cases v1 : o.ev = 1
      · have gv : (o.ev == 1) = true := by simp [v1]
        have HV := Lib.hid (show true = ev5 o.ev from (decide_eq_true (by omega)).symm)
        clear v1
        go_wp2_with fail
        go_meet
        exact ⟨congrArg Value.bool HV.out, rfl⟩
      · have g1 : (o.ev == 1) = false := by simp [v1]
        by_cases v3 : o.ev = 3
        · have gv : (o.ev == 3) = true := by simp [v3]
          have HV := Lib.hid (show true = ev5 o.ev from (decide_eq_true (by omega)).symm)
          clear v3
          go_wp2_with fail
          go_meet
          exact ⟨congrArg Value.bool HV.out, rfl⟩
        · have g3 : (o.ev == 3) = false := by simp [v3]
          by_cases v6 : o.ev = 6
          · have gv : (o.ev == 6) = true := by simp [v6]
            have HV := Lib.hid (show true = ev5 o.ev from (decide_eq_true (by omega)).symm)
            clear v6
            go_wp2_with fail
            go_meet
            exact ⟨congrArg Value.bool HV.out, rfl⟩
          · have g6 : (o.ev == 6) = false := by simp [v6]
            by_cases v12 : o.ev = 12
            · have gv : (o.ev == 12) = true := by simp [v12]
              have HV := Lib.hid (show true = ev5 o.ev from (decide_eq_true (by omega)).symm)
              clear v12
              go_wp2_with fail
              go_meet
              exact ⟨congrArg Value.bool HV.out, rfl⟩
            · have g12 : (o.ev == 12) = false := by simp [v12]
              go_wp2_with fail
              go_meet
              exact ⟨congrArg Value.bool (show false = ev5 o.ev from (decide_eq_false (by omega)).symm), rfl⟩
  case rest =>
    obtain ⟨rfl, rfl⟩ := hcut
    go_upto_region 2 with fail
    go_cut [4] from 28 to 42 (fun s4 wx => s4 = .bool (dyB o) ∧ w1 = wx)
    case first =>
      go_wp2_with fail
      by_cases d1 : 0 ≤ o.day ∧ o.day ≤ 73048
      · refine (Dt.rvalid_yes _ _ d1.1 d1.2).mono ?_
        rintro e w' ⟨rfl, rfl⟩
        go_wp2_with fail
        by_cases d2 : 0 ≤ o.un ∧ o.un ≤ 73048
        · refine (Dt.rvalid_yes _ _ d2.1 d2.2).mono ?_
          rintro e w' ⟨rfl, rfl⟩
          go_wp2_with fail
          go_meet
          exact ⟨congrArg Value.bool (show decide (o.day ≤ o.un) = dyB o from decide_eq_decide.2 (by omega)), rfl⟩
        · refine (Dt.rvalid_no _ _ (by omega)).mono ?_
          rintro e w' ⟨rfl, rfl⟩
          go_wp2_with fail
          go_meet
          exact ⟨congrArg Value.bool (show false = dyB o from (decide_eq_false (by omega)).symm), rfl⟩
      · refine (Dt.rvalid_no _ _ (by omega)).mono ?_
        rintro e w' ⟨rfl, rfl⟩
        go_wp2_with fail
        go_meet
        exact ⟨congrArg Value.bool (show false = dyB o from (decide_eq_false (by omega)).symm), rfl⟩
    case rest =>
      obtain ⟨rfl, rfl⟩ := hcut
      by_cases n1 : o.id < 1
      · have HF := Lib.hid (odE_id (o := o) (by omega))
        go_wp2_with fail
        go_ret
        exact ⟨by rw [HF.out]; try rfl, cw1⟩
      · by_cases n2 : o.fr < 1000
        · have HF := Lib.hid (odE_id (o := o) (by omega))
          go_wp2_with fail
          go_ret
          exact ⟨by rw [HF.out]; try rfl, cw1⟩
        · by_cases n3 : o.too < 1000
          · have HF := Lib.hid (odE_id (o := o) (by omega))
            go_wp2_with fail
            go_ret
            exact ⟨by rw [HF.out]; try rfl, cw1⟩
          · by_cases n4 : o.fr = o.too
            · have gn4 : (o.fr == o.too) = true := by simp [n4]
              have Hn4 := Lib.hid n4
              clear n4
              have HF := Lib.hid (odE_id (o := o) (by have := Hn4.out; omega))
              go_wp2_with fail
              go_ret
              exact ⟨by rw [HF.out]; try rfl, cw1⟩
            · have gn4 : (o.fr == o.too) = false := by simp [n4]
              by_cases n5 : o.am < 1
              · have HF := Lib.hid (odE_id (o := o) (by omega))
                go_wp2_with fail
                go_ret
                exact ⟨by rw [HF.out]; try rfl, cw1⟩
              · by_cases n6 : 1000000000000 < o.am
                · have HF := Lib.hid (odE_id (o := o) (by omega))
                  go_wp2_with fail
                  go_ret
                  exact ⟨by rw [HF.out]; try rfl, cw1⟩
                · cases hD : dyB o
                  · have HF := Lib.hid (odE_dy (o := o) (of_decide_eq_false hD))
                    go_wp2_with fail
                    go_ret
                    exact ⟨by rw [HF.out]; try rfl, cw1⟩
                  · have hdy := of_decide_eq_true hD
                    cases hE : ev5 o.ev
                    · have HF := Lib.hid (odE_ev (o := o) (fun h => by have := of_decide_eq_false hE; omega))
                      go_wp2_with fail
                      go_ret
                      exact ⟨by rw [HF.out]; try rfl, cw1⟩
                    · have hev := of_decide_eq_true hE
                      by_cases a1 : o.an < 1
                      · have HF := Lib.hid (odE_ev (o := o) (by omega))
                        go_wp2_with fail
                        go_ret
                        exact ⟨by rw [HF.out]; try rfl, cw1⟩
                      · by_cases a2 : 31 < o.an
                        · have HF := Lib.hid (odE_ev (o := o) (by omega))
                          go_wp2_with fail
                          go_ret
                          exact ⟨by rw [HF.out]; try rfl, cw1⟩
                        · by_cases t1 : o.tr < 0
                          · have HF := Lib.hid (odE_tr (o := o) (by omega))
                            go_wp2_with fail
                            go_ret
                            exact ⟨by rw [HF.out]; try rfl, cw1⟩
                          · by_cases t2 : 3 < o.tr
                            · have HF := Lib.hid (odE_tr (o := o) (by omega))
                              go_wp2_with fail
                              go_ret
                              exact ⟨by rw [HF.out]; try rfl, cw1⟩
                            · go_wp2_with fail
                              refine (printed_any o.tx _ hs).mono ?_
                              rintro e w' ⟨rfl, rfl⟩
                              cases hx : txB o.tx
                              · have HF := Lib.hid (odE_tx (o := o) hx)
                                go_wp2_with fail
                                go_ret
                                exact ⟨by rw [HF.out]; try rfl, cw1⟩
                              · have HF := Lib.hid (Ok.odE (o := o) ⟨⟨by omega, by omega, by omega, n4, by omega, by omega⟩, ⟨⟨by omega, by omega⟩, ⟨by omega, by omega⟩, by omega⟩, hev, ⟨by omega, by omega⟩, ⟨by omega, by omega⟩, hx⟩)
                                go_wp2_with fail
                                go_ret
                                exact ⟨by rw [HF.out]; try rfl, cw1⟩
end Go.Proofs.Ytdlmoijeflchgaa.So
