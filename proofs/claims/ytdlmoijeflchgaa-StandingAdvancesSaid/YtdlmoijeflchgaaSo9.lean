/-
  StandingAdvances: its walk.
-/
import Derived.Test.YtdlmoijeflchgaaSo8
namespace Go.Proofs.Ytdlmoijeflchgaa.So
open Go Go.RowKit
open Go.Proofs.Ytdlmoijeflchgaa
open Go.Proofs.Ytdlmoijeflchgaa.Cal
open Go.Proofs.Ytdlmoijeflchgaa.Kl (Cl CalIn)
open Go.Proofs.Ytdlmoijeflchgaa.Ln (flat flat_len RowIn OwnR bl2 Blk_setRow_same Below_setRow load_guarded)
set_option linter.unusedSimpArgs false
set_option linter.unusedVariables false
set_option maxRecDepth 100000

/-- Where StandingAdvances stands. -/
def AvR (w : World) (o : Od) (c : Cl) (wa ha : Option Addr) (wc hc : Nat) (g : Nat) (s5 s6 : Value) (W : World) : Prop := ∃ (n : Nat) (l : List Od) (a : Option Addr) (cp : Nat), n + g = 51 ∧ s5 = .slice a l.length cp ∧ s6 = .int .i64 n ∧ RowIn oenc W a l ∧ ((l = [] ∧ n ≤ 50) ∨ ∃ x, l = [x] ∧ Adv o n x ∧ n ≤ 49) ∧
  Bk.Blk W w.heap.size #[.int .i64 (o).id, .int .i64 (o).fr, .int .i64 (o).too, .int .i64 (o).am, .int .i64 (o).day, .int .i64 (o).ev, .int .i64 (o).an, .int .i64 (o).un, .int .i64 (o).tr, .string (o).tx] 23 ∧ Bk.Blk W (w.heap.size + 1) #[.string c.nm, .slice wa c.wk.length wc, .slice ha c.hol.length hc] 26 ∧ CalIn W c wa ha ∧ Below w.heap.size w W
theorem av_done {o x : Od} {n : Nat} {c : Cl} (ho : Ok o) (hq : ¬ (0 < o.ev ∧ 40 * o.ev < (o.un - o.day) / 28)) (h : Adv o n x) : dnE [x] o.id x.day = 0 ∧ ((dnR [x] o.id x.day true c = [{ x with tr := 0, day := nxV x c }] ∧ Adv o (n + 1) { x with tr := 0, day := nxV x c } ∧ n + 1 ≤ 49 ∧ (12 * cy (nxV x c) + cm (nxV x c) = 12 * cy x.day + cm x.day + o.ev) ∧ o.ev ≠ 0 ∧ nxV x c ≤ o.un ∧ (0 ≤ nxV x c ∧ nxV x c ≤ 73048)) ∨ dnR [x] o.id x.day true c = []) := by
  have e : dnE [x] o.id x.day = 0 := by rw [← h.id]; exact dnE_one x
  refine ⟨e, ?_⟩
  rw [dnR_yes e, ← h.id, dnL_one, if_neg (by simp)]
  by_cases h2 : nxE x c = 0
  · rw [if_pos h2]
    have hs := h.step h2
    exact .inl ⟨rfl, hs.1, hs.1.few ho hq, hs.2.1, hs.2.2.1, hs.2.2.2.1, hs.2.2.2.2⟩
  · rw [if_neg h2]
    exact .inr rfl
set_option maxHeartbeats 32000000 in
theorem advances_walk (o : Od) (c : Cl) (wa ha : Option Addr) (wc hc : Nat) (hs : o.tx.size ≤ maxLen) (w : World) (h : CalIn w c wa ha) : Calls Try.prog 5 #[(.agg #[.int .i64 (o).id, .int .i64 (o).fr, .int .i64 (o).too, .int .i64 (o).am, .int .i64 (o).day, .int .i64 (o).ev, .int .i64 (o).an, .int .i64 (o).un, .int .i64 (o).tr, .string (o).tx]), (.agg #[.string (c).nm, .slice wa (c).wk.length wc, .slice ha (c).hol.length hc])] w fun e w' => e = .returned (.bool true) ∧ Below w.heap.size w w' := by
  have cw : Below w.heap.size w ((w.alloc (.cells #[.int .i64 (o).id, .int .i64 (o).fr, .int .i64 (o).too, .int .i64 (o).am, .int .i64 (o).day, .int .i64 (o).ev, .int .i64 (o).an, .int .i64 (o).un, .int .i64 (o).tr, .string (o).tx] 23)).alloc (.cells #[.string c.nm, .slice wa c.wk.length wc, .slice ha c.hol.length hc] 26)) := ((Below.refl _ _).alloc (Nat.le_refl _) _).alloc (by simp) _
  have k0 : Bk.Blk ((w.alloc (.cells #[.int .i64 (o).id, .int .i64 (o).fr, .int .i64 (o).too, .int .i64 (o).am, .int .i64 (o).day, .int .i64 (o).ev, .int .i64 (o).an, .int .i64 (o).un, .int .i64 (o).tr, .string (o).tx] 23)).alloc (.cells #[.string c.nm, .slice wa c.wk.length wc, .slice ha c.hol.length hc] 26)) w.heap.size #[.int .i64 (o).id, .int .i64 (o).fr, .int .i64 (o).too, .int .i64 (o).am, .int .i64 (o).day, .int .i64 (o).ev, .int .i64 (o).an, .int .i64 (o).un, .int .i64 (o).tr, .string (o).tx] 23 := Bk.Blk.nw20
  have kc : Bk.Blk ((w.alloc (.cells #[.int .i64 (o).id, .int .i64 (o).fr, .int .i64 (o).too, .int .i64 (o).am, .int .i64 (o).day, .int .i64 (o).ev, .int .i64 (o).an, .int .i64 (o).un, .int .i64 (o).tr, .string (o).tx] 23)).alloc (.cells #[.string c.nm, .slice wa c.wk.length wc, .slice ha c.hol.length hc] 26)) (w.heap.size + 1) #[.string c.nm, .slice wa c.wk.length wc, .slice ha c.hol.length hc] 26 := Bk.Blk.nw21
  have hi := h.later cw
  have hn0 : c.nm.size ≤ 9223372036854775807 := by have := h.nm; unfold maxLen at this; omega
  have hn1 := h.wk.1
  have hn2 := h.hol.1
  have hn3 : o.tx.size ≤ 9223372036854775807 := by unfold maxLen at hs; omega
  clear h
  go_enter Try.func5, Try.ntmps5
  go_upto_region 1 with fail
  generalize ((w.alloc (.cells #[.int .i64 (o).id, .int .i64 (o).fr, .int .i64 (o).too, .int .i64 (o).am, .int .i64 (o).day, .int .i64 (o).ev, .int .i64 (o).an, .int .i64 (o).un, .int .i64 (o).tr, .string (o).tx] 23)).alloc (.cells #[.string c.nm, .slice wa c.wk.length wc, .slice ha c.hol.length hc] 26)) = w1 at *
  have cw1 := cw
  clear cw
  go_wp2_with (refine wpList_load_row rfl 26 _ rfl _ rfl _ _ _ _ kc Try.underlying26 rfl (by kernel_rfl) ?_)
  refine (light_any c wa ha wc hc _ hn0 hn1 hn2).mono ?_
  rintro e w2 ⟨b, rfl, hb⟩
  replace k0 := k0.later hb
  replace kc := kc.later hb
  replace hi := hi.later hb
  have cw2 := bl2 hb cw1
  clear hb cw1
  cases b
  · go_wp2_with fail
    go_ret
    exact ⟨rfl, cw2⟩
  · have l9 := k0.c9
    by_cases h2 : 200 < o.tx.size
    · go_wp2_with fail
      go_ret
      exact ⟨rfl, cw2⟩
    · have g9 : decide (200 < o.tx.size) = false := decide_eq_false h2
      have g9b : decide ((200 : Int) < (o.tx.size : Int)) = false := decide_eq_false (by omega)
      go_wp2_with (refine load_guarded 23 _ rfl rfl _ rfl _ _ _ _ k0 Try.underlying23 rfl (by kernel_rfl) ?_)
      clear g9 g9b
      refine (odchk_any o _ hs).mono ?_
      rintro e w3 ⟨rfl, hb⟩
      replace k0 := k0.later hb
      replace kc := kc.later hb
      replace hi := hi.later hb
      have cw3 := bl2 hb cw2
      clear hb cw2
      by_cases hE : odE o = 0
      · have ho := ok_of hE
        have g1 : (odE o != 0) = false := by rw [hE]; rfl
        clear hE
        generalize odE o = E at g1 ⊢
        have l4 := k0.c4
        have l5 := k0.c5
        have l7 := k0.c7
        have hdd := ho.days
        have hee := ho.evs
        by_cases he : 0 < o.ev
        · have gq0 : decide (0 < o.ev) = true := decide_eq_true he
          have w1' : wrap64 (o.un - o.day) = o.un - o.day := by unfold wrap64; omega
          have w2' : wrap64 (40 * o.ev) = 40 * o.ev := by unfold wrap64; omega
          have w3' : wrap64 ((o.un - o.day) / 28) = (o.un - o.day) / 28 := by unfold wrap64; omega
          have t1 : Int.tdiv (o.un - o.day) 28 = (o.un - o.day) / 28 := Int.tdiv_eq_ediv_of_nonneg (by omega)
          by_cases hlt : 40 * o.ev < (o.un - o.day) / 28
          · clear ho hdd hee
            have gq1 : decide (40 * o.ev < (o.un - o.day) / 28) = true := decide_eq_true hlt
            go_wp2_with fail
            go_ret
            exact ⟨rfl, cw3⟩
          · have gq1 : decide (40 * o.ev < (o.un - o.day) / 28) = false := decide_eq_false hlt
            have hq : ¬ (0 < o.ev ∧ 40 * o.ev < (o.un - o.day) / 28) := fun hh => hlt hh.2
            clear hdd hee
            go_upto_region 3 with fail
            clear w1' w2' w3' t1 gq0 gq1
            have HO := Lib.hid ho
            have HQ := Lib.hid hq
            clear l9 l4 l5 l7
            go_upto_region 4 with (refine wpList_load_row rfl 23 _ rfl _ rfl _ _ _ _ k0 Try.underlying23 rfl (by kernel_rfl) ?_)
            have hb4 : Below w3.heap.size w3 (w3.alloc (.cells #[.int .i64 (o).id, .int .i64 (o).fr, .int .i64 (o).too, .int .i64 (o).am, .int .i64 (o).day, .int .i64 (o).ev, .int .i64 (o).an, .int .i64 (o).un, .int .i64 (o).tr, .string (o).tx] 23)) := (Below.refl _ _).alloc (Nat.le_refl _) _
            have hr : RowIn oenc (w3.alloc (.cells #[.int .i64 (o).id, .int .i64 (o).fr, .int .i64 (o).too, .int .i64 (o).am, .int .i64 (o).day, .int .i64 (o).ev, .int .i64 (o).an, .int .i64 (o).un, .int .i64 (o).tr, .string (o).tx] 23)) (some ⟨w3.heap.size, 0, none⟩) [o] := row_blk Bk.Blk.nw10
            replace k0 := k0.later hb4
            replace kc := kc.later hb4
            replace hi := hi.later hb4
            have cw4 := bl2 hb4 cw3
            clear hb4 cw3 ho hq
            generalize (w3.alloc (.cells #[.int .i64 (o).id, .int .i64 (o).fr, .int .i64 (o).too, .int .i64 (o).am, .int .i64 (o).day, .int .i64 (o).ev, .int .i64 (o).an, .int .i64 (o).un, .int .i64 (o).tr, .string (o).tx] 23)) = w4 at *
            generalize w3.heap.size = g3 at *
            go_upto_region 5 with fail
            go_loopg [5, 6] 51 (AvR w o c wa ha wc hc)
            case atStart => exact ⟨0, [o], _, _, by omega, rfl, rfl, hr, .inr ⟨o, rfl, Adv.start HO.out, by omega⟩, k0, kc, hi, cw4⟩
            case round =>
              clear k0 kc hi hr cw4
              obtain ⟨n, l, a, cp, hn, rfl, rfl, hr, hl, k0, kc, hi, cwr⟩ := hrel
              rcases hl with ⟨rfl, hn50⟩ | ⟨x, rfl, hg, hn49⟩
              · go_wp2_with fail
                refine (live_any _).mono ?_
                rintro e wl ⟨rfl, hb⟩
                have cwl := bl2 hb cwr
                go_wp2_with fail
                go_ret
                exact ⟨rfl, cwl⟩
              · have hm : ∃ b off, a = some ⟨b, off, none⟩ ∧ wr.rangeAt b off (oenc x) := by
                  obtain ⟨b, off, ha, hq⟩ := row_at hr (by simp)
                  exact ⟨b, off, ha, fun j u hj => hq 0 (by simp) j u hj⟩
                obtain ⟨b, off, rfl, hm⟩ := hm
                have HA := Lib.hid (av_done (c := c) HO.out HQ.out hg)
                have hR : ∀ y ∈ [x], Ok y := fun y hy => by rw [List.mem_singleton.1 hy]; exact hg.ok
                have hxd := hg.ok.days.1
                clear hg
                have hbx : Below wr.heap.size wr ((wr.alloc (.cells #[.int .i64 0, .int .i64 0, .int .i64 0, .int .i64 0, .int .i64 0, .int .i64 0, .int .i64 0, .int .i64 0, .int .i64 0, .string { data := #[] }] 23)).setRow wr.heap.size (oenc x).toArray) := Below_setRow ((Below.refl _ _).alloc (Nat.le_refl _) _) (Nat.le_refl _) _
                have hv : Bk.Blk ((wr.alloc (.cells #[.int .i64 0, .int .i64 0, .int .i64 0, .int .i64 0, .int .i64 0, .int .i64 0, .int .i64 0, .int .i64 0, .int .i64 0, .string { data := #[] }] 23)).setRow wr.heap.size (oenc x).toArray) wr.heap.size #[.int .i64 (x).id, .int .i64 (x).fr, .int .i64 (x).too, .int .i64 (x).am, .int .i64 (x).day, .int .i64 (x).ev, .int .i64 (x).an, .int .i64 (x).un, .int .i64 (x).tr, .string (x).tx] 23 := Blk_setRow_same Bk.Blk.nw10
                go_upto_region 10 with (first | (refine wpList_load_mid rfl 23 _ rfl b off (by first | rfl | simp) (oenc x) _ hm Try.underlying23 rfl (by kernel_rfl) ?_) | (refine wpList_store_row rfl 23 _ _ rfl _ _ rfl rfl _ _ Bk.Blk.nw10 (by kernel_rfl) rfl (all_oneCell_toArray (oenc_one x)) ?_))
                replace k0 := k0.later hbx
                replace kc := kc.later hbx
                replace hi := hi.later hbx
                replace hr := hr.later hbx
                have cw5 := bl2 hbx cwr
                clear hm hbx cwr
                generalize ((wr.alloc (.cells #[.int .i64 0, .int .i64 0, .int .i64 0, .int .i64 0, .int .i64 0, .int .i64 0, .int .i64 0, .int .i64 0, .int .i64 0, .string { data := #[] }] 23)).setRow wr.heap.size (oenc x).toArray) = w5 at *
                generalize wr.heap.size = gv at *
                have l0 := k0.c0
                have v4 := hv.c4
                go_wp2_with (refine wpList_load_row rfl 26 _ rfl _ rfl _ _ _ _ kc Try.underlying26 rfl (by kernel_rfl) ?_)
                clear l0 v4
                refine (done_any _ cp [x] o.id x.day true c wa ha wc hc _ hr (by simp) hR hi).mono ?_
                rintro e w6 ⟨a2, c2, rfl, hr2, hb⟩
                replace k0 := k0.later hb
                replace kc := kc.later hb
                replace hi := hi.later hb
                replace hv := hv.later hb
                have cw6 := bl2 hb cw5
                clear hb cw5
                obtain ⟨hE0, hways⟩ := HA.out
                rw [hE0]
                clear hE0 HA hr hR
                generalize dnR [x] o.id x.day true c = m at *
                rcases hways with ⟨rfl, hg2, hn2, hmo, hev, hun, hnb⟩ | rfl
                · obtain ⟨b2, off2, ha2, hq⟩ := row_at hr2 (by simp)
                  subst ha2
                  have e4 : w6.cell? ⟨b2, off2 + 4, none⟩ = some (.int .i64 (nxV x c)) := hq 0 (by simp) 4 _ rfl
                  clear hq
                  generalize hnv : nxV x c = nv at *
                  have v4 := hv.c4
                  go_wp2_with fail
                  refine (Dt.rcivil_any x.day _ hxd.1 hxd.2).mono ?_
                  rintro e w' ⟨rfl, rfl⟩
                  go_wp2_with fail
                  refine (Dt.rcivil_any nv _ hnb.1 hnb.2).mono ?_
                  rintro e w' ⟨rfl, rfl⟩
                  have h1 := civ_spec x.day hxd.1 hxd.2
                  have h2 := civ_spec nv hnb.1 hnb.2
                  obtain ⟨a0, a1, a3, a4⟩ : 2000 ≤ cy x.day ∧ cy x.day ≤ 2199 ∧ 1 ≤ cm x.day ∧ cm x.day ≤ 12 := ⟨h1.y0, h1.y1, h1.m0, h1.m1⟩
                  obtain ⟨q0, q1, q3, q4⟩ : 2000 ≤ cy nv ∧ cy nv ≤ 2199 ∧ 1 ≤ cm nv ∧ cm nv ≤ 12 := ⟨h2.y0, h2.y1, h2.m0, h2.m1⟩
                  clear h1 h2 v4
                  have hev2 : -12 ≤ o.ev ∧ o.ev ≤ 12 := by have := HO.out.evs; omega
                  generalize cy x.day = yx at *
                  generalize cm x.day = mx at *
                  generalize cy nv = yn at *
                  generalize cm nv = mn at *
                  generalize ck x.day = dx at *
                  generalize ck nv = dn at *
                  have r1 : IntKind.i64.wrap (yn * 12) = yn * 12 := by rw [IntKind.wrap_i64]; omega
                  have r2 : IntKind.i64.wrap (yn * 12 + mn) = yn * 12 + mn := by rw [IntKind.wrap_i64]; omega
                  have r3 : IntKind.i64.wrap (yx * 12) = yx * 12 := by rw [IntKind.wrap_i64]; omega
                  have r4 : IntKind.i64.wrap (yx * 12 + mx) = yx * 12 + mx := by rw [IntKind.wrap_i64]; omega
                  have r5 : IntKind.i64.wrap (yx * 12 + mx + o.ev) = yx * 12 + mx + o.ev := by rw [IntKind.wrap_i64]; omega
                  have n1 : (yn * 12 + mn != yx * 12 + mx + o.ev) = false := by simp; omega
                  have n2 : (o.ev == 0) = false := beq_eq_false_iff_ne.2 hev
                  have n3 : decide (o.un < nv) = false := decide_eq_false (by omega)
                  have HH := Lib.hid (And.intro hmo (And.intro hev hun))
                  clear hmo hev hun
                  have e8 : w6.cell? ⟨b2, off2 + 8, none⟩ = some (.int .i64 0) := by
                    obtain ⟨b3, off3, ha3, hq⟩ := row_at hr2 (by simp)
                    obtain ⟨rfl, rfl⟩ : b2 = b3 ∧ off2 = off3 := by simpa using ha3
                    exact hq 0 (by simp) 8 _ rfl
                  have l5 := k0.c5
                  have l7 := k0.c7
                  go_upto_region 16 with fail
                  refine Reg.region_quiet (by kernel_rfl) (by kernel_rfl) ?_
                  iterate 33 (first | go_big_quiet_skip | (go_big_quiet_want; (first | (go_big_quiet_op; go_big_quiet_on) | (apply Reg.quiet_run; (intro W hW; (have q0 := hW.cell l5; have q1 := hW.cell l7; have q2 := hW.cell e4; have q3 := hW.cell e8); go_simp; (first | done | rfl | exact ⟨rfl, rfl⟩ )); (simp only [Act.put, List.setIfInBounds_toArray, List.set_cons_zero, List.set_cons_succ]; go_big_quiet_on)) | (apply Reg.quiet_call; (intro W hW; go_simp; (first | done | rfl | exact ⟨rfl, rfl⟩)); (intro W hW; (first | fail)); (simp only [Act.put, List.setIfInBounds_toArray, List.set_cons_zero, List.set_cons_succ]; go_big_quiet_on)))))
                  refine wpQuiet_nil ?_
                  intro w7 hW
                  replace k0 := k0.later hW
                  replace kc := kc.later hW
                  replace hi := hi.later hW
                  replace hr2 := hr2.later hW
                  have cw7 := bl2 hW cw6
                  clear hW cw6 l5 l7 e4 e8 hv
                  go_wp2_with fail
                  go_roundg (gk - 1)
                  case measure => omega
                  case rel => exact ⟨n + 1, [{ x with tr := 0, day := nv }], _, c2, by omega, rfl, by go_num, hr2, .inr ⟨_, rfl, hg2, hn2⟩, k0, kc, hi, cw7⟩
                · go_wp2_with fail
                  go_roundg (gk - 1)
                  case measure => omega
                  case rel => exact ⟨n + 1, [], a2, c2, by omega, rfl, by go_num, hr2, .inl ⟨rfl, by omega⟩, k0, kc, hi, cw6⟩
        · have gq0 : decide (0 < o.ev) = false := decide_eq_false he
          have hq : ¬ (0 < o.ev ∧ 40 * o.ev < (o.un - o.day) / 28) := fun hh => he hh.1
          clear hdd hee
          go_upto_region 3 with fail
          clear gq0
          have HO := Lib.hid ho
          have HQ := Lib.hid hq
          clear l9 l4 l5 l7
          go_upto_region 4 with (refine wpList_load_row rfl 23 _ rfl _ rfl _ _ _ _ k0 Try.underlying23 rfl (by kernel_rfl) ?_)
          have hb4 : Below w3.heap.size w3 (w3.alloc (.cells #[.int .i64 (o).id, .int .i64 (o).fr, .int .i64 (o).too, .int .i64 (o).am, .int .i64 (o).day, .int .i64 (o).ev, .int .i64 (o).an, .int .i64 (o).un, .int .i64 (o).tr, .string (o).tx] 23)) := (Below.refl _ _).alloc (Nat.le_refl _) _
          have hr : RowIn oenc (w3.alloc (.cells #[.int .i64 (o).id, .int .i64 (o).fr, .int .i64 (o).too, .int .i64 (o).am, .int .i64 (o).day, .int .i64 (o).ev, .int .i64 (o).an, .int .i64 (o).un, .int .i64 (o).tr, .string (o).tx] 23)) (some ⟨w3.heap.size, 0, none⟩) [o] := row_blk Bk.Blk.nw10
          replace k0 := k0.later hb4
          replace kc := kc.later hb4
          replace hi := hi.later hb4
          have cw4 := bl2 hb4 cw3
          clear hb4 cw3 ho hq
          generalize (w3.alloc (.cells #[.int .i64 (o).id, .int .i64 (o).fr, .int .i64 (o).too, .int .i64 (o).am, .int .i64 (o).day, .int .i64 (o).ev, .int .i64 (o).an, .int .i64 (o).un, .int .i64 (o).tr, .string (o).tx] 23)) = w4 at *
          generalize w3.heap.size = g3 at *
          go_upto_region 5 with fail
          go_loopg [5, 6] 51 (AvR w o c wa ha wc hc)
          case atStart => exact ⟨0, [o], _, _, by omega, rfl, rfl, hr, .inr ⟨o, rfl, Adv.start HO.out, by omega⟩, k0, kc, hi, cw4⟩
          case round =>
            clear k0 kc hi hr cw4
            obtain ⟨n, l, a, cp, hn, rfl, rfl, hr, hl, k0, kc, hi, cwr⟩ := hrel
            rcases hl with ⟨rfl, hn50⟩ | ⟨x, rfl, hg, hn49⟩
            · go_wp2_with fail
              refine (live_any _).mono ?_
              rintro e wl ⟨rfl, hb⟩
              have cwl := bl2 hb cwr
              go_wp2_with fail
              go_ret
              exact ⟨rfl, cwl⟩
            · have hm : ∃ b off, a = some ⟨b, off, none⟩ ∧ wr.rangeAt b off (oenc x) := by
                obtain ⟨b, off, ha, hq⟩ := row_at hr (by simp)
                exact ⟨b, off, ha, fun j u hj => hq 0 (by simp) j u hj⟩
              obtain ⟨b, off, rfl, hm⟩ := hm
              have HA := Lib.hid (av_done (c := c) HO.out HQ.out hg)
              have hR : ∀ y ∈ [x], Ok y := fun y hy => by rw [List.mem_singleton.1 hy]; exact hg.ok
              have hxd := hg.ok.days.1
              clear hg
              have hbx : Below wr.heap.size wr ((wr.alloc (.cells #[.int .i64 0, .int .i64 0, .int .i64 0, .int .i64 0, .int .i64 0, .int .i64 0, .int .i64 0, .int .i64 0, .int .i64 0, .string { data := #[] }] 23)).setRow wr.heap.size (oenc x).toArray) := Below_setRow ((Below.refl _ _).alloc (Nat.le_refl _) _) (Nat.le_refl _) _
              have hv : Bk.Blk ((wr.alloc (.cells #[.int .i64 0, .int .i64 0, .int .i64 0, .int .i64 0, .int .i64 0, .int .i64 0, .int .i64 0, .int .i64 0, .int .i64 0, .string { data := #[] }] 23)).setRow wr.heap.size (oenc x).toArray) wr.heap.size #[.int .i64 (x).id, .int .i64 (x).fr, .int .i64 (x).too, .int .i64 (x).am, .int .i64 (x).day, .int .i64 (x).ev, .int .i64 (x).an, .int .i64 (x).un, .int .i64 (x).tr, .string (x).tx] 23 := Blk_setRow_same Bk.Blk.nw10
              go_upto_region 10 with (first | (refine wpList_load_mid rfl 23 _ rfl b off (by first | rfl | simp) (oenc x) _ hm Try.underlying23 rfl (by kernel_rfl) ?_) | (refine wpList_store_row rfl 23 _ _ rfl _ _ rfl rfl _ _ Bk.Blk.nw10 (by kernel_rfl) rfl (all_oneCell_toArray (oenc_one x)) ?_))
              replace k0 := k0.later hbx
              replace kc := kc.later hbx
              replace hi := hi.later hbx
              replace hr := hr.later hbx
              have cw5 := bl2 hbx cwr
              clear hm hbx cwr
              generalize ((wr.alloc (.cells #[.int .i64 0, .int .i64 0, .int .i64 0, .int .i64 0, .int .i64 0, .int .i64 0, .int .i64 0, .int .i64 0, .int .i64 0, .string { data := #[] }] 23)).setRow wr.heap.size (oenc x).toArray) = w5 at *
              generalize wr.heap.size = gv at *
              have l0 := k0.c0
              have v4 := hv.c4
              go_wp2_with (refine wpList_load_row rfl 26 _ rfl _ rfl _ _ _ _ kc Try.underlying26 rfl (by kernel_rfl) ?_)
              clear l0 v4
              refine (done_any _ cp [x] o.id x.day true c wa ha wc hc _ hr (by simp) hR hi).mono ?_
              rintro e w6 ⟨a2, c2, rfl, hr2, hb⟩
              replace k0 := k0.later hb
              replace kc := kc.later hb
              replace hi := hi.later hb
              replace hv := hv.later hb
              have cw6 := bl2 hb cw5
              clear hb cw5
              obtain ⟨hE0, hways⟩ := HA.out
              rw [hE0]
              clear hE0 HA hr hR
              generalize dnR [x] o.id x.day true c = m at *
              rcases hways with ⟨rfl, hg2, hn2, hmo, hev, hun, hnb⟩ | rfl
              · obtain ⟨b2, off2, ha2, hq⟩ := row_at hr2 (by simp)
                subst ha2
                have e4 : w6.cell? ⟨b2, off2 + 4, none⟩ = some (.int .i64 (nxV x c)) := hq 0 (by simp) 4 _ rfl
                clear hq
                generalize hnv : nxV x c = nv at *
                have v4 := hv.c4
                go_wp2_with fail
                refine (Dt.rcivil_any x.day _ hxd.1 hxd.2).mono ?_
                rintro e w' ⟨rfl, rfl⟩
                go_wp2_with fail
                refine (Dt.rcivil_any nv _ hnb.1 hnb.2).mono ?_
                rintro e w' ⟨rfl, rfl⟩
                have h1 := civ_spec x.day hxd.1 hxd.2
                have h2 := civ_spec nv hnb.1 hnb.2
                obtain ⟨a0, a1, a3, a4⟩ : 2000 ≤ cy x.day ∧ cy x.day ≤ 2199 ∧ 1 ≤ cm x.day ∧ cm x.day ≤ 12 := ⟨h1.y0, h1.y1, h1.m0, h1.m1⟩
                obtain ⟨q0, q1, q3, q4⟩ : 2000 ≤ cy nv ∧ cy nv ≤ 2199 ∧ 1 ≤ cm nv ∧ cm nv ≤ 12 := ⟨h2.y0, h2.y1, h2.m0, h2.m1⟩
                clear h1 h2 v4
                have hev2 : -12 ≤ o.ev ∧ o.ev ≤ 12 := by have := HO.out.evs; omega
                generalize cy x.day = yx at *
                generalize cm x.day = mx at *
                generalize cy nv = yn at *
                generalize cm nv = mn at *
                generalize ck x.day = dx at *
                generalize ck nv = dn at *
                have r1 : IntKind.i64.wrap (yn * 12) = yn * 12 := by rw [IntKind.wrap_i64]; omega
                have r2 : IntKind.i64.wrap (yn * 12 + mn) = yn * 12 + mn := by rw [IntKind.wrap_i64]; omega
                have r3 : IntKind.i64.wrap (yx * 12) = yx * 12 := by rw [IntKind.wrap_i64]; omega
                have r4 : IntKind.i64.wrap (yx * 12 + mx) = yx * 12 + mx := by rw [IntKind.wrap_i64]; omega
                have r5 : IntKind.i64.wrap (yx * 12 + mx + o.ev) = yx * 12 + mx + o.ev := by rw [IntKind.wrap_i64]; omega
                have n1 : (yn * 12 + mn != yx * 12 + mx + o.ev) = false := by simp; omega
                have n2 : (o.ev == 0) = false := beq_eq_false_iff_ne.2 hev
                have n3 : decide (o.un < nv) = false := decide_eq_false (by omega)
                have HH := Lib.hid (And.intro hmo (And.intro hev hun))
                clear hmo hev hun
                have e8 : w6.cell? ⟨b2, off2 + 8, none⟩ = some (.int .i64 0) := by
                  obtain ⟨b3, off3, ha3, hq⟩ := row_at hr2 (by simp)
                  obtain ⟨rfl, rfl⟩ : b2 = b3 ∧ off2 = off3 := by simpa using ha3
                  exact hq 0 (by simp) 8 _ rfl
                have l5 := k0.c5
                have l7 := k0.c7
                go_upto_region 16 with fail
                refine Reg.region_quiet (by kernel_rfl) (by kernel_rfl) ?_
                iterate 33 (first | go_big_quiet_skip | (go_big_quiet_want; (first | (go_big_quiet_op; go_big_quiet_on) | (apply Reg.quiet_run; (intro W hW; (have q0 := hW.cell l5; have q1 := hW.cell l7; have q2 := hW.cell e4; have q3 := hW.cell e8); go_simp; (first | done | rfl | exact ⟨rfl, rfl⟩ )); (simp only [Act.put, List.setIfInBounds_toArray, List.set_cons_zero, List.set_cons_succ]; go_big_quiet_on)) | (apply Reg.quiet_call; (intro W hW; go_simp; (first | done | rfl | exact ⟨rfl, rfl⟩)); (intro W hW; (first | fail)); (simp only [Act.put, List.setIfInBounds_toArray, List.set_cons_zero, List.set_cons_succ]; go_big_quiet_on)))))
                refine wpQuiet_nil ?_
                intro w7 hW
                replace k0 := k0.later hW
                replace kc := kc.later hW
                replace hi := hi.later hW
                replace hr2 := hr2.later hW
                have cw7 := bl2 hW cw6
                clear hW cw6 l5 l7 e4 e8 hv
                go_wp2_with fail
                go_roundg (gk - 1)
                case measure => omega
                case rel => exact ⟨n + 1, [{ x with tr := 0, day := nv }], _, c2, by omega, rfl, by go_num, hr2, .inr ⟨_, rfl, hg2, hn2⟩, k0, kc, hi, cw7⟩
              · go_wp2_with fail
                go_roundg (gk - 1)
                case measure => omega
                case rel => exact ⟨n + 1, [], a2, c2, by omega, rfl, by go_num, hr2, .inl ⟨rfl, by omega⟩, k0, kc, hi, cw6⟩
      · have g1 : (odE o != 0) = true := bne_iff_ne.2 hE
        clear hE
        generalize odE o = E at *
        go_wp2_with fail
        go_ret
        exact ⟨rfl, cw3⟩
end Go.Proofs.Ytdlmoijeflchgaa.So
