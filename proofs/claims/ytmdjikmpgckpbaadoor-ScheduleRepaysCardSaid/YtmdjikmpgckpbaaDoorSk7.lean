/-
  ScheduleChecks, ScheduleDays, ScheduleBuilds, ScheduleSums: their walks.
-/
import Derived.Test.YtmdjikmpgckpbaaDoorSk6
namespace Go.Proofs.YtmdjikmpgckpbaaDoor.Kl
open Go Go.RowKit
open Go.Proofs.YtmdjikmpgckpbaaDoor
open Go.Proofs.YtmdjikmpgckpbaaDoor.Ln (Tm Du DuesIn P I take_at one_at call_at value_wp yields_load_row call_one call_pv call_pk)
set_option linter.unusedSimpArgs false
set_option linter.unusedVariables false
set_option maxRecDepth 100000

/-- Two blocks are known, and old memory is as it was. -/
def SK (w0 : World) (g : Nat) (cs : Array Value) (t : TypeId) (g' : Nat) (cs' : Array Value) (t' : TypeId) (W : World) : Prop := (Bk.Blk W g cs t ∧ Bk.Blk W g' cs' t') ∧ Below w0.heap.size w0 W
theorem SK.mono {w0 : World} {g : Nat} {cs : Array Value} {t : TypeId} {g' : Nat} {cs' : Array Value} {t' : TypeId} : ∀ W W', SK w0 g cs t g' cs' t' W → Below W.heap.size W W' → SK w0 g cs t g' cs' t' W' := fun _ _ h hb => ⟨⟨h.1.1.later hb, h.1.2.later hb⟩, Ln.bl2 hb h.2⟩
def FewO (w : World) (e : Ending) (w' : World) : Prop := ∃ b : Bool, e = .returned (.bool b) ∧ Below w.heap.size w w'
set_option maxHeartbeats 4000000 in
theorem few_any (t : Tm) (c : Cl) (wa ha : Option Addr) (wc hc : Nat) (w : World) (h1 : c.wk.length ≤ 9223372036854775807) (h2 : c.hol.length ≤ 9223372036854775807) : Calls Tryd.prog 12 #[(.agg #[.int .i64 (t).me, .int .i64 (t).pr, .int .i64 (t).ppm, .int .i64 (t).stt, .int .i64 (t).ev, .int .i64 (t).ct, .int .i64 (t).ba, .int .i64 (t).mo, .int .i64 (t).pen, .int .i64 (t).fe, .string (t).cal, .string (t).cur]), (.agg #[.string (c).nm, .slice wa (c).wk.length wc, .slice ha (c).hol.length hc])] w (FewO w) := by
  have cw : Below w.heap.size w ((w.alloc (.cells #[.int .i64 (t).me, .int .i64 (t).pr, .int .i64 (t).ppm, .int .i64 (t).stt, .int .i64 (t).ev, .int .i64 (t).ct, .int .i64 (t).ba, .int .i64 (t).mo, .int .i64 (t).pen, .int .i64 (t).fe, .string (t).cal, .string (t).cur] 23)).alloc (.cells #[.string c.nm, .slice wa c.wk.length wc, .slice ha c.hol.length hc] 26)) := ((Below.refl _ _).alloc (Nat.le_refl _) _).alloc (by simp) _
  have kt : Bk.Blk ((w.alloc (.cells #[.int .i64 (t).me, .int .i64 (t).pr, .int .i64 (t).ppm, .int .i64 (t).stt, .int .i64 (t).ev, .int .i64 (t).ct, .int .i64 (t).ba, .int .i64 (t).mo, .int .i64 (t).pen, .int .i64 (t).fe, .string (t).cal, .string (t).cur] 23)).alloc (.cells #[.string c.nm, .slice wa c.wk.length wc, .slice ha c.hol.length hc] 26)) w.heap.size #[.int .i64 (t).me, .int .i64 (t).pr, .int .i64 (t).ppm, .int .i64 (t).stt, .int .i64 (t).ev, .int .i64 (t).ct, .int .i64 (t).ba, .int .i64 (t).mo, .int .i64 (t).pen, .int .i64 (t).fe, .string (t).cal, .string (t).cur] 23 := Bk.Blk.nw20
  have kc : Bk.Blk ((w.alloc (.cells #[.int .i64 (t).me, .int .i64 (t).pr, .int .i64 (t).ppm, .int .i64 (t).stt, .int .i64 (t).ev, .int .i64 (t).ct, .int .i64 (t).ba, .int .i64 (t).mo, .int .i64 (t).pen, .int .i64 (t).fe, .string (t).cal, .string (t).cur] 23)).alloc (.cells #[.string c.nm, .slice wa c.wk.length wc, .slice ha c.hol.length hc] 26)) (w.heap.size + 1) #[.string c.nm, .slice wa c.wk.length wc, .slice ha c.hol.length hc] 26 := Bk.Blk.nw21
  go_enter Tryd.func12, Tryd.ntmps12
  go_upto_region 1 with fail
  generalize ((w.alloc (.cells #[.int .i64 (t).me, .int .i64 (t).pr, .int .i64 (t).ppm, .int .i64 (t).stt, .int .i64 (t).ev, .int .i64 (t).ct, .int .i64 (t).ba, .int .i64 (t).mo, .int .i64 (t).pen, .int .i64 (t).fe, .string (t).cal, .string (t).cur] 23)).alloc (.cells #[.string c.nm, .slice wa c.wk.length wc, .slice ha c.hol.length hc] 26)) = w1 at *
  have l5 := kt.c5
  have m1 := kc.c1
  have m2 := kc.c2
  by_cases a1 : t.ct ≤ 40
  · by_cases a3 : c.wk.length ≤ 10
    · by_cases a4 : c.hol.length ≤ 500
      · go_wp2_with fail
        go_ret
        exact ⟨_, rfl, cw⟩
      · go_wp2_with fail
        go_ret
        exact ⟨_, rfl, cw⟩
    · go_wp2_with fail
      go_ret
      exact ⟨_, rfl, cw⟩
  · by_cases a2 : 120 < t.ct
    · by_cases a3 : c.wk.length ≤ 10
      · by_cases a4 : c.hol.length ≤ 500
        · go_wp2_with fail
          go_ret
          exact ⟨_, rfl, cw⟩
        · go_wp2_with fail
          go_ret
          exact ⟨_, rfl, cw⟩
      · go_wp2_with fail
        go_ret
        exact ⟨_, rfl, cw⟩
    · go_wp2_with fail
      go_ret
      exact ⟨_, rfl, cw⟩
set_option maxHeartbeats 4000000 in
theorem sameints_any (a1 a2 : Option Addr) (k1 k2 : Nat) (xs : List Int) (w : World) (h1 : Bk.IntsIn w a1 xs) (h2 : Bk.IntsIn w a2 xs) :
    Calls Tryd.prog 15 #[.slice a1 xs.length k1, .slice a2 xs.length k2] w fun e w' => e = .returned (.bool true) ∧ Below w.heap.size w w' := by
  have H1 := Lib.hid h1
  have H2 := Lib.hid h2
  have hn := h1.1
  clear h1 h2
  go_enter Tryd.func15, Tryd.ntmps15
  go_wp2_with fail
  go_loopg [5] xs.length (SaR w xs.length)
  case atStart => exact ⟨0, by omega, rfl, Below.refl _ _⟩
  case round =>
    obtain ⟨k, hk, rfl, hbr⟩ := hrel
    by_cases hlt : k < xs.length
    · obtain ⟨b, off, rfl, hc⟩ := H1.out.2 (by omega)
      obtain ⟨b', off', rfl, hd⟩ := H2.out.2 (by omega)
      have c0 := cell_later hbr (hc k hlt)
      have d0 := cell_later hbr (hd k hlt)
      clear hc hd
      generalize xs.getD k 0 = x at *
      go_wp2_with fail
      go_region
      all_goals go_wp2_with fail
      go_roundg (gk - 1)
      case measure => omega
      case rel => exact ⟨k + 1, by omega, by go_num, hbr.drew⟩
    · go_wp2_with fail
      go_ret
      exact ⟨rfl, hbr⟩
set_option maxHeartbeats 16000000 in
theorem days_walk (t : Tm) (c : Cl) (wa ha : Option Addr) (wc hc : Nat) (hcu : t.cur.size ≤ maxLen) (w : World) (h : CalIn w c wa ha) (hs : Rd.Stp w) : Calls Tryd.prog 4 #[(.agg #[.int .i64 (t).me, .int .i64 (t).pr, .int .i64 (t).ppm, .int .i64 (t).stt, .int .i64 (t).ev, .int .i64 (t).ct, .int .i64 (t).ba, .int .i64 (t).mo, .int .i64 (t).pen, .int .i64 (t).fe, .string (t).cal, .string (t).cur]), (.agg #[.string (c).nm, .slice wa (c).wk.length wc, .slice ha (c).hol.length hc])] w fun e w' => e = .returned (.bool true) ∧ Below w.heap.size w w' := by
  have cw : Below w.heap.size w ((w.alloc (.cells #[.int .i64 (t).me, .int .i64 (t).pr, .int .i64 (t).ppm, .int .i64 (t).stt, .int .i64 (t).ev, .int .i64 (t).ct, .int .i64 (t).ba, .int .i64 (t).mo, .int .i64 (t).pen, .int .i64 (t).fe, .string (t).cal, .string (t).cur] 23)).alloc (.cells #[.string c.nm, .slice wa c.wk.length wc, .slice ha c.hol.length hc] 26)) := ((Below.refl _ _).alloc (Nat.le_refl _) _).alloc (by simp) _
  have kt : Bk.Blk ((w.alloc (.cells #[.int .i64 (t).me, .int .i64 (t).pr, .int .i64 (t).ppm, .int .i64 (t).stt, .int .i64 (t).ev, .int .i64 (t).ct, .int .i64 (t).ba, .int .i64 (t).mo, .int .i64 (t).pen, .int .i64 (t).fe, .string (t).cal, .string (t).cur] 23)).alloc (.cells #[.string c.nm, .slice wa c.wk.length wc, .slice ha c.hol.length hc] 26)) w.heap.size #[.int .i64 (t).me, .int .i64 (t).pr, .int .i64 (t).ppm, .int .i64 (t).stt, .int .i64 (t).ev, .int .i64 (t).ct, .int .i64 (t).ba, .int .i64 (t).mo, .int .i64 (t).pen, .int .i64 (t).fe, .string (t).cal, .string (t).cur] 23 := Bk.Blk.nw20
  have kc : Bk.Blk ((w.alloc (.cells #[.int .i64 (t).me, .int .i64 (t).pr, .int .i64 (t).ppm, .int .i64 (t).stt, .int .i64 (t).ev, .int .i64 (t).ct, .int .i64 (t).ba, .int .i64 (t).mo, .int .i64 (t).pen, .int .i64 (t).fe, .string (t).cal, .string (t).cur] 23)).alloc (.cells #[.string c.nm, .slice wa c.wk.length wc, .slice ha c.hol.length hc] 26)) (w.heap.size + 1) #[.string c.nm, .slice wa c.wk.length wc, .slice ha c.hol.length hc] 26 := Bk.Blk.nw21
  have hi := h.later cw
  have hS := hs.of cw
  have hn1 := h.wk.1
  have hn2 := h.hol.1
  clear h hs
  go_enter Tryd.func4, Tryd.ntmps4
  go_upto_region 1 with fail
  generalize ((w.alloc (.cells #[.int .i64 (t).me, .int .i64 (t).pr, .int .i64 (t).ppm, .int .i64 (t).stt, .int .i64 (t).ev, .int .i64 (t).ct, .int .i64 (t).ba, .int .i64 (t).mo, .int .i64 (t).pen, .int .i64 (t).fe, .string (t).cal, .string (t).cur] 23)).alloc (.cells #[.string c.nm, .slice wa c.wk.length wc, .slice ha c.hol.length hc] 26)) = w1 at *
  have cw1 := cw
  clear cw
  have l0 := kt.c0
  have l1 := kt.c1
  have l2 := kt.c2
  have l3 := kt.c3
  have l4 := kt.c4
  have l5 := kt.c5
  have l6 := kt.c6
  have l7 := kt.c7
  have l8 := kt.c8
  have l9 := kt.c9
  have l10 := kt.c10
  have l11 := kt.c11
  have m0 := kc.c0
  have m1 := kc.c1
  have m2 := kc.c2
  go_wp2_with fail
  clear l0 l1 l2 l3 l4 l5 l6 l7 l8 l9 l10 l11 m0 m1 m2
  refine (few_any t c wa ha wc hc _ hn1 hn2).mono ?_
  rintro e w2 ⟨b, rfl, hb⟩
  replace kt := kt.later hb
  replace kc := kc.later hb
  replace hi := hi.later hb
  replace hS := hS.of hb
  have cw2 := bl2 hb cw1
  clear hb cw1
  cases b
  · go_wp2_with fail
    refine (lives_any _ hS).mono ?_
    rintro e wl ⟨rfl, hb⟩
    have cwl := bl2 hb cw2
    clear hb cw2
    go_wp2_with fail
    go_ret
    exact ⟨rfl, cwl⟩
  · have l0 := kt.c0
    have l1 := kt.c1
    have l2 := kt.c2
    have l3 := kt.c3
    have l4 := kt.c4
    have l5 := kt.c5
    have l6 := kt.c6
    have l7 := kt.c7
    have l8 := kt.c8
    have l9 := kt.c9
    have l10 := kt.c10
    have l11 := kt.c11
    have m0 := kc.c0
    have m1 := kc.c1
    have m2 := kc.c2
    go_wp2_with fail
    clear l0 l1 l2 l3 l4 l5 l6 l7 l8 l9 l10 l11 m0 m1 m2
    refine (days_any t c wa ha wc hc _ hi hcu).mono ?_
    rintro e w3 ⟨a1, c1, rfl, hii1, _, hb⟩
    replace kt := kt.later hb
    replace kc := kc.later hb
    replace hi := hi.later hb
    replace hS := hS.of hb
    have cw3 := bl2 hb cw2
    clear hb cw2
    have l0 := kt.c0
    have l1 := kt.c1
    have l2 := kt.c2
    have l3 := kt.c3
    have l4 := kt.c4
    have l5 := kt.c5
    have l6 := kt.c6
    have l7 := kt.c7
    have l8 := kt.c8
    have l9 := kt.c9
    have l10 := kt.c10
    have l11 := kt.c11
    have m0 := kc.c0
    have m1 := kc.c1
    have m2 := kc.c2
    go_wp2_with fail
    clear l0 l1 l2 l3 l4 l5 l6 l7 l8 l9 l10 l11 m0 m1 m2
    refine (rdays_any t c wa ha wc hc _ hi hcu).mono ?_
    rintro e w4 ⟨a2, c2, rfl, hii2, _, hb⟩
    replace kt := kt.later hb
    replace kc := kc.later hb
    replace hi := hi.later hb
    replace hS := hS.of hb
    replace hii1 := ints_later hb hii1
    have cw4 := bl2 hb cw3
    clear hb cw3
    generalize daysV t c = ds at *
    generalize daysE t c = E at *
    have gE : (E == E) = true := beq_self_eq_true E
    go_wp2_with fail
    refine (sameints_any a1 a2 c1 c2 ds _ hii1 hii2).mono ?_
    rintro e w5 ⟨rfl, hb⟩
    replace kt := kt.later hb
    replace kc := kc.later hb
    replace hi := hi.later hb
    replace hS := hS.of hb
    replace hii1 := ints_later hb hii1
    replace hii2 := ints_later hb hii2
    have cw5 := bl2 hb cw4
    clear hb cw4
    go_wp2_with fail
    refine (lives_any _ hS).mono ?_
    rintro e wl ⟨rfl, hb⟩
    have cwl := bl2 hb cw5
    clear hb cw5
    go_wp2_with fail
    go_ret
    exact ⟨rfl, cwl⟩
set_option maxHeartbeats 16000000 in
theorem builds_walk (t : Tm) (c : Cl) (wa ha : Option Addr) (wc hc : Nat) (hcu : t.cur.size ≤ maxLen) (w : World) (h : CalIn w c wa ha) (hs : Rd.Stp w) : Calls Tryd.prog 5 #[(.agg #[.int .i64 (t).me, .int .i64 (t).pr, .int .i64 (t).ppm, .int .i64 (t).stt, .int .i64 (t).ev, .int .i64 (t).ct, .int .i64 (t).ba, .int .i64 (t).mo, .int .i64 (t).pen, .int .i64 (t).fe, .string (t).cal, .string (t).cur]), (.agg #[.string (c).nm, .slice wa (c).wk.length wc, .slice ha (c).hol.length hc])] w fun e w' => e = .returned (.bool true) ∧ Below w.heap.size w w' := by
  have cw : Below w.heap.size w ((w.alloc (.cells #[.int .i64 (t).me, .int .i64 (t).pr, .int .i64 (t).ppm, .int .i64 (t).stt, .int .i64 (t).ev, .int .i64 (t).ct, .int .i64 (t).ba, .int .i64 (t).mo, .int .i64 (t).pen, .int .i64 (t).fe, .string (t).cal, .string (t).cur] 23)).alloc (.cells #[.string c.nm, .slice wa c.wk.length wc, .slice ha c.hol.length hc] 26)) := ((Below.refl _ _).alloc (Nat.le_refl _) _).alloc (by simp) _
  have kt : Bk.Blk ((w.alloc (.cells #[.int .i64 (t).me, .int .i64 (t).pr, .int .i64 (t).ppm, .int .i64 (t).stt, .int .i64 (t).ev, .int .i64 (t).ct, .int .i64 (t).ba, .int .i64 (t).mo, .int .i64 (t).pen, .int .i64 (t).fe, .string (t).cal, .string (t).cur] 23)).alloc (.cells #[.string c.nm, .slice wa c.wk.length wc, .slice ha c.hol.length hc] 26)) w.heap.size #[.int .i64 (t).me, .int .i64 (t).pr, .int .i64 (t).ppm, .int .i64 (t).stt, .int .i64 (t).ev, .int .i64 (t).ct, .int .i64 (t).ba, .int .i64 (t).mo, .int .i64 (t).pen, .int .i64 (t).fe, .string (t).cal, .string (t).cur] 23 := Bk.Blk.nw20
  have kc : Bk.Blk ((w.alloc (.cells #[.int .i64 (t).me, .int .i64 (t).pr, .int .i64 (t).ppm, .int .i64 (t).stt, .int .i64 (t).ev, .int .i64 (t).ct, .int .i64 (t).ba, .int .i64 (t).mo, .int .i64 (t).pen, .int .i64 (t).fe, .string (t).cal, .string (t).cur] 23)).alloc (.cells #[.string c.nm, .slice wa c.wk.length wc, .slice ha c.hol.length hc] 26)) (w.heap.size + 1) #[.string c.nm, .slice wa c.wk.length wc, .slice ha c.hol.length hc] 26 := Bk.Blk.nw21
  have hi := h.later cw
  have hS := hs.of cw
  have hn1 := h.wk.1
  have hn2 := h.hol.1
  clear h hs
  go_enter Tryd.func5, Tryd.ntmps5
  go_upto_region 1 with fail
  generalize ((w.alloc (.cells #[.int .i64 (t).me, .int .i64 (t).pr, .int .i64 (t).ppm, .int .i64 (t).stt, .int .i64 (t).ev, .int .i64 (t).ct, .int .i64 (t).ba, .int .i64 (t).mo, .int .i64 (t).pen, .int .i64 (t).fe, .string (t).cal, .string (t).cur] 23)).alloc (.cells #[.string c.nm, .slice wa c.wk.length wc, .slice ha c.hol.length hc] 26)) = w1 at *
  have cw1 := cw
  clear cw
  have l0 := kt.c0
  have l1 := kt.c1
  have l2 := kt.c2
  have l3 := kt.c3
  have l4 := kt.c4
  have l5 := kt.c5
  have l6 := kt.c6
  have l7 := kt.c7
  have l8 := kt.c8
  have l9 := kt.c9
  have l10 := kt.c10
  have l11 := kt.c11
  have m0 := kc.c0
  have m1 := kc.c1
  have m2 := kc.c2
  go_wp2_with fail
  clear l0 l1 l2 l3 l4 l5 l6 l7 l8 l9 l10 l11 m0 m1 m2
  refine (few_any t c wa ha wc hc _ hn1 hn2).mono ?_
  rintro e w2 ⟨b, rfl, hb⟩
  replace kt := kt.later hb
  replace kc := kc.later hb
  replace hi := hi.later hb
  replace hS := hS.of hb
  have cw2 := bl2 hb cw1
  clear hb cw1
  cases b
  · go_wp2_with fail
    refine (lives_any _ hS).mono ?_
    rintro e wl ⟨rfl, hb⟩
    have cwl := bl2 hb cw2
    clear hb cw2
    go_wp2_with fail
    go_ret
    exact ⟨rfl, cwl⟩
  · have l0 := kt.c0
    have l1 := kt.c1
    have l2 := kt.c2
    have l3 := kt.c3
    have l4 := kt.c4
    have l5 := kt.c5
    have l6 := kt.c6
    have l7 := kt.c7
    have l8 := kt.c8
    have l9 := kt.c9
    have l10 := kt.c10
    have l11 := kt.c11
    have m0 := kc.c0
    have m1 := kc.c1
    have m2 := kc.c2
    go_wp2_with fail
    clear l0 l1 l2 l3 l4 l5 l6 l7 l8 l9 l10 l11 m0 m1 m2
    refine (build_any t c wa ha wc hc _ hi hcu hS).mono ?_
    rintro e w3 ⟨a1, c1, rfl, hd1, _, hb⟩
    replace kt := kt.later hb
    replace kc := kc.later hb
    replace hi := hi.later hb
    replace hS := hS.of hb
    have cw3 := bl2 hb cw2
    clear hb cw2
    have l0 := kt.c0
    have l1 := kt.c1
    have l2 := kt.c2
    have l3 := kt.c3
    have l4 := kt.c4
    have l5 := kt.c5
    have l6 := kt.c6
    have l7 := kt.c7
    have l8 := kt.c8
    have l9 := kt.c9
    have l10 := kt.c10
    have l11 := kt.c11
    have m0 := kc.c0
    have m1 := kc.c1
    have m2 := kc.c2
    go_wp2_with fail
    clear l0 l1 l2 l3 l4 l5 l6 l7 l8 l9 l10 l11 m0 m1 m2
    refine (rbuild_any t c wa ha wc hc _ hi hcu hS).mono ?_
    rintro e w4 ⟨a2, c2, rfl, hd2, _, hb⟩
    replace kt := kt.later hb
    replace kc := kc.later hb
    replace hi := hi.later hb
    replace hS := hS.of hb
    replace hd1 := hd1.later hb
    have cw4 := bl2 hb cw3
    clear hb cw3
    generalize blV t c = ds at *
    generalize blE t c = E at *
    have gE : (E == E) = true := beq_self_eq_true E
    go_wp2_with fail
    refine (rsame_any a1 a2 c1 c2 ds _ hd1 hd2).mono ?_
    rintro e w5 ⟨rfl, hb⟩
    replace kt := kt.later hb
    replace kc := kc.later hb
    replace hi := hi.later hb
    replace hS := hS.of hb
    replace hd1 := hd1.later hb
    replace hd2 := hd2.later hb
    have cw5 := bl2 hb cw4
    clear hb cw4
    go_wp2_with fail
    refine (lives_any _ hS).mono ?_
    rintro e wl ⟨rfl, hb⟩
    have cwl := bl2 hb cw5
    clear hb cw5
    go_wp2_with fail
    go_ret
    exact ⟨rfl, cwl⟩
set_option maxHeartbeats 16000000 in
theorem checks_walk (t : Tm) (c : Cl) (wa ha : Option Addr) (wc hc : Nat) (hcu : t.cur.size ≤ maxLen) (w : World) (h : CalIn w c wa ha) (hs : Rd.Stp w) : Calls Tryd.prog 3 #[(.agg #[.int .i64 (t).me, .int .i64 (t).pr, .int .i64 (t).ppm, .int .i64 (t).stt, .int .i64 (t).ev, .int .i64 (t).ct, .int .i64 (t).ba, .int .i64 (t).mo, .int .i64 (t).pen, .int .i64 (t).fe, .string (t).cal, .string (t).cur]), (.agg #[.string (c).nm, .slice wa (c).wk.length wc, .slice ha (c).hol.length hc])] w fun e w' => e = .returned (.bool true) ∧ Below w.heap.size w w' := by
  have cw : Below w.heap.size w ((w.alloc (.cells #[.int .i64 (t).me, .int .i64 (t).pr, .int .i64 (t).ppm, .int .i64 (t).stt, .int .i64 (t).ev, .int .i64 (t).ct, .int .i64 (t).ba, .int .i64 (t).mo, .int .i64 (t).pen, .int .i64 (t).fe, .string (t).cal, .string (t).cur] 23)).alloc (.cells #[.string c.nm, .slice wa c.wk.length wc, .slice ha c.hol.length hc] 26)) := ((Below.refl _ _).alloc (Nat.le_refl _) _).alloc (by simp) _
  have kt : Bk.Blk ((w.alloc (.cells #[.int .i64 (t).me, .int .i64 (t).pr, .int .i64 (t).ppm, .int .i64 (t).stt, .int .i64 (t).ev, .int .i64 (t).ct, .int .i64 (t).ba, .int .i64 (t).mo, .int .i64 (t).pen, .int .i64 (t).fe, .string (t).cal, .string (t).cur] 23)).alloc (.cells #[.string c.nm, .slice wa c.wk.length wc, .slice ha c.hol.length hc] 26)) w.heap.size #[.int .i64 (t).me, .int .i64 (t).pr, .int .i64 (t).ppm, .int .i64 (t).stt, .int .i64 (t).ev, .int .i64 (t).ct, .int .i64 (t).ba, .int .i64 (t).mo, .int .i64 (t).pen, .int .i64 (t).fe, .string (t).cal, .string (t).cur] 23 := Bk.Blk.nw20
  have kc : Bk.Blk ((w.alloc (.cells #[.int .i64 (t).me, .int .i64 (t).pr, .int .i64 (t).ppm, .int .i64 (t).stt, .int .i64 (t).ev, .int .i64 (t).ct, .int .i64 (t).ba, .int .i64 (t).mo, .int .i64 (t).pen, .int .i64 (t).fe, .string (t).cal, .string (t).cur] 23)).alloc (.cells #[.string c.nm, .slice wa c.wk.length wc, .slice ha c.hol.length hc] 26)) (w.heap.size + 1) #[.string c.nm, .slice wa c.wk.length wc, .slice ha c.hol.length hc] 26 := Bk.Blk.nw21
  have hi := h.later cw
  have hS := hs.of cw
  have hn1 := h.wk.1
  have hn2 := h.hol.1
  clear h hs
  go_enter Tryd.func3, Tryd.ntmps3
  go_upto_region 1 with fail
  generalize ((w.alloc (.cells #[.int .i64 (t).me, .int .i64 (t).pr, .int .i64 (t).ppm, .int .i64 (t).stt, .int .i64 (t).ev, .int .i64 (t).ct, .int .i64 (t).ba, .int .i64 (t).mo, .int .i64 (t).pen, .int .i64 (t).fe, .string (t).cal, .string (t).cur] 23)).alloc (.cells #[.string c.nm, .slice wa c.wk.length wc, .slice ha c.hol.length hc] 26)) = w1 at *
  have cw1 := cw
  clear cw
  have m1 := kc.c1
  have m2 := kc.c2
  by_cases a1 : c.wk.length ≤ 10
  · by_cases a2 : c.hol.length ≤ 500
    · have hP := hS
      clear hS
      have HK1 := Lib.hid (fun W (hW : SK w1 w.heap.size #[.int .i64 (t).me, .int .i64 (t).pr, .int .i64 (t).ppm, .int .i64 (t).stt, .int .i64 (t).ev, .int .i64 (t).ct, .int .i64 (t).ba, .int .i64 (t).mo, .int .i64 (t).pen, .int .i64 (t).fe, .string (t).cal, .string (t).cur] 23 (w.heap.size + 1) #[.string c.nm, .slice wa c.wk.length wc, .slice ha c.hol.length hc] 26 W) => skchk_any t c wa ha wc hc W (hi.later hW.2) hcu)
      have HK2 := Lib.hid (fun W (hW : SK w1 w.heap.size #[.int .i64 (t).me, .int .i64 (t).pr, .int .i64 (t).ppm, .int .i64 (t).stt, .int .i64 (t).ev, .int .i64 (t).ct, .int .i64 (t).ba, .int .i64 (t).mo, .int .i64 (t).pen, .int .i64 (t).fe, .string (t).cal, .string (t).cur] 23 (w.heap.size + 1) #[.string c.nm, .slice wa c.wk.length wc, .slice ha c.hol.length hc] 26 W) => rskchk_any t c wa ha wc hc W (hi.later hW.2) hcu)
      have HP := Lib.hid (fun W (hW : SK w1 w.heap.size #[.int .i64 (t).me, .int .i64 (t).pr, .int .i64 (t).ppm, .int .i64 (t).stt, .int .i64 (t).ev, .int .i64 (t).ct, .int .i64 (t).ba, .int .i64 (t).mo, .int .i64 (t).pen, .int .i64 (t).fe, .string (t).cal, .string (t).cur] 23 (w.heap.size + 1) #[.string c.nm, .slice wa c.wk.length wc, .slice ha c.hol.length hc] 26 W) => hP.of hW.2)
      have gE : (skE t c == skE t c) = true := beq_self_eq_true _
      generalize skE t c = E at *
      go_upto_region 3 with fail
      have hS0 : SK w1 w.heap.size #[.int .i64 (t).me, .int .i64 (t).pr, .int .i64 (t).ppm, .int .i64 (t).stt, .int .i64 (t).ev, .int .i64 (t).ct, .int .i64 (t).ba, .int .i64 (t).mo, .int .i64 (t).pen, .int .i64 (t).fe, .string (t).cal, .string (t).cur] 23 (w.heap.size + 1) #[.string c.nm, .slice wa c.wk.length wc, .slice ha c.hol.length hc] 26 w1.drew := ⟨⟨kt.drew, kc.drew⟩, (Below.refl _ _).drew⟩
      refine wp_region_held_drew (S := SK w1 w.heap.size #[.int .i64 (t).me, .int .i64 (t).pr, .int .i64 (t).ppm, .int .i64 (t).stt, .int .i64 (t).ev, .int .i64 (t).ct, .int .i64 (t).ba, .int .i64 (t).mo, .int .i64 (t).pen, .int .i64 (t).fe, .string (t).cal, .string (t).cur] 23 (w.heap.size + 1) #[.string c.nm, .slice wa c.wk.length wc, .slice ha c.hol.length hc] 26) (by kernel_rfl) hS0 (fun hS => ?_)
      clear hS0 kt kc hi
      refine take_at 0 (by decide) (by kernel_rfl) (by kernel_rfl) (by kernel_rfl) (fun _ _ _ h => h) hS (yields_load_row (by rfl) 23 (.tmp 2) rfl w.heap.size rfl _ _ _ _ (fun W hW => hW.1.1) Tryd.underlying23 rfl (by kernel_rfl)) ?_
      simp only [List.getElem_cons_zero, List.getElem_cons_succ, Act.put, List.setIfInBounds_toArray, List.set_cons_zero, List.set_cons_succ]
      refine take_at 1 (by decide) (by kernel_rfl) (by kernel_rfl) (by kernel_rfl) (fun _ _ _ h => h) hS (yields_load_row (by rfl) 26 (.tmp 3) rfl (w.heap.size + 1) rfl _ _ _ _ (fun W hW => hW.1.2) Tryd.underlying26 rfl (by kernel_rfl)) ?_
      simp only [List.getElem_cons_zero, List.getElem_cons_succ, Act.put, List.setIfInBounds_toArray, List.set_cons_zero, List.set_cons_succ]
      refine take_at 3 (by decide) (by kernel_rfl) (by kernel_rfl) (by kernel_rfl) (fun _ _ _ h => h) hS (yields_load_row (by rfl) 23 (.tmp 2) rfl w.heap.size rfl _ _ _ _ (fun W hW => hW.1.1) Tryd.underlying23 rfl (by kernel_rfl)) ?_
      simp only [List.getElem_cons_zero, List.getElem_cons_succ, Act.put, List.setIfInBounds_toArray, List.set_cons_zero, List.set_cons_succ]
      refine take_at 4 (by decide) (by kernel_rfl) (by kernel_rfl) (by kernel_rfl) (fun _ _ _ h => h) hS (yields_load_row (by rfl) 26 (.tmp 3) rfl (w.heap.size + 1) rfl _ _ _ _ (fun W hW => hW.1.2) Tryd.underlying26 rfl (by kernel_rfl)) ?_
      simp only [List.getElem_cons_zero, List.getElem_cons_succ, Act.put, List.setIfInBounds_toArray, List.set_cons_zero, List.set_cons_succ]
      refine call_at 2 (by decide) (Pi := (fun v _ => v = .int .i64 E)) (by kernel_rfl) (by rfl) (by simp only [List.getElem_cons_zero, List.getElem_cons_succ]; go_simp; first | done | rfl | exact ⟨rfl, rfl⟩) (call_one SK.mono hS (HK1.out _ hS)) ?_
      clear hS
      rintro w2 u hS rfl
      simp only [List.getElem_cons_zero, List.getElem_cons_succ, Act.put, List.setIfInBounds_toArray, List.set_cons_zero, List.set_cons_succ]
      refine call_at 5 (by decide) (Pi := (fun v _ => v = .int .i64 E)) (by kernel_rfl) (by rfl) (by simp only [List.getElem_cons_zero, List.getElem_cons_succ]; go_simp; first | done | rfl | exact ⟨rfl, rfl⟩) (call_one SK.mono hS (HK2.out _ hS)) ?_
      clear hS
      rintro w3 u hS rfl
      simp only [List.getElem_cons_zero, List.getElem_cons_succ, Act.put, List.setIfInBounds_toArray, List.set_cons_zero, List.set_cons_succ]
      refine take_at 6 (by decide) (v := ?_) (by kernel_rfl) (by kernel_rfl) (by kernel_rfl) (fun _ _ _ h => h) hS (Or.inl ⟨by rfl, ?_⟩) ?_
      rotate_left
      · intro W hW
        skip
        clear hW
        simp only [List.getElem_cons_zero, List.getElem_cons_succ]
        go_simp
        first | done | with_reducible rfl
      simp only [List.getElem_cons_zero, List.getElem_cons_succ, Act.put, List.setIfInBounds_toArray, List.set_cons_zero, List.set_cons_succ]
      refine take_at 7 (by decide) (v := ?_) (by kernel_rfl) (by kernel_rfl) (by kernel_rfl) (fun _ _ _ h => h) hS (Or.inl ⟨by rfl, ?_⟩) ?_
      rotate_left
      · intro W hW
        skip
        clear hW
        simp only [List.getElem_cons_zero, List.getElem_cons_succ]
        go_simp
        first | done | with_reducible rfl
      simp only [List.getElem_cons_zero, List.getElem_cons_succ, Act.put, List.setIfInBounds_toArray, List.set_cons_zero, List.set_cons_succ]
      refine call_at 8 (by decide) (Pi := (fun v _ => v = .bool true)) (by kernel_rfl) (by rfl) (by simp only [List.getElem_cons_zero, List.getElem_cons_succ]; go_simp; first | done | rfl | exact ⟨rfl, rfl⟩) (call_one SK.mono hS (lives_any _ (HP.out _ hS))) ?_
      clear hS
      rintro w4 u hS rfl
      simp only [List.getElem_cons_zero, List.getElem_cons_succ, Act.put, List.setIfInBounds_toArray, List.set_cons_zero, List.set_cons_succ]
      refine take_at 9 (by decide) (v := ?_) (by kernel_rfl) (by kernel_rfl) (by kernel_rfl) (fun _ _ _ h => h) hS (Or.inl ⟨by rfl, ?_⟩) ?_
      rotate_left
      · intro W hW
        skip
        clear hW
        simp only [List.getElem_cons_zero, List.getElem_cons_succ]
        go_simp
        first | done | with_reducible rfl
      simp only [List.getElem_cons_zero, List.getElem_cons_succ, Act.put, List.setIfInBounds_toArray, List.set_cons_zero, List.set_cons_succ]
      refine take_at 10 (by decide) (v := ?_) (by kernel_rfl) (by kernel_rfl) (by kernel_rfl) (fun _ _ _ h => h) hS (Or.inl ⟨by rfl, ?_⟩) ?_
      rotate_left
      · intro W hW
        skip
        clear hW
        simp only [List.getElem_cons_zero, List.getElem_cons_succ]
        go_simp
        first | done | with_reducible rfl
      simp only [List.getElem_cons_zero, List.getElem_cons_succ, Act.put, List.setIfInBounds_toArray, List.set_cons_zero, List.set_cons_succ]
      refine wpAnyH_done (by kernel_rfl) ?_ _
      go_wp2_with fail
      go_ret
      exact ⟨rfl, Ln.bl2 hS.2 cw1⟩
    · go_wp2_with fail
      refine (lives_any _ hS).mono ?_
      rintro e wl ⟨rfl, hb⟩
      have cwl := bl2 hb cw1
      clear hb cw1
      go_wp2_with fail
      go_ret
      exact ⟨rfl, cwl⟩
  · go_wp2_with fail
    refine (lives_any _ hS).mono ?_
    rintro e wl ⟨rfl, hb⟩
    have cwl := bl2 hb cw1
    clear hb cw1
    go_wp2_with fail
    go_ret
    exact ⟨rfl, cwl⟩
/-- Installments that a call has returned. -/
def UP (xs : List Du) (v : Value) (W : World) : Prop := ∃ a c, v = .slice a xs.length c ∧ DuesIn W a xs
theorem UP.mono {xs : List Du} : ∀ u W W', Below W.heap.size W W' → UP xs u W → UP xs u W' := fun _ _ _ hb ⟨a, c, he, hr⟩ => ⟨a, c, he, hr.later hb⟩
theorem until_pv (a : Option Addr) (cap : Nat) (ds : List Du) (day : Int) (w : World) (h : DuesIn w a ds) (hl : ds.length ≤ 1000000) : Calls Tryd.prog 23 #[.slice a ds.length cap, .int .i64 day] w fun e w' => ∃ v, e = .returned v ∧ UP (Ln.due ds day) v w' ∧ Below w.heap.size w w' :=
  (suntil_any a cap ds day w h hl).mono fun e w' ⟨x, y, he, hd, hb⟩ => ⟨_, he, ⟨x, y, rfl, hd⟩, hb⟩
theorem runtil_pv (a : Option Addr) (cap : Nat) (ds : List Du) (day : Int) (w : World) (h : DuesIn w a ds) (hl : ds.length ≤ 1000000) : Calls Tryd.prog 24 #[.slice a ds.length cap, .int .i64 day] w fun e w' => ∃ v, e = .returned v ∧ UP (Ln.due ds day) v w' ∧ Below w.heap.size w w' :=
  (sruntil_any a cap ds day w h hl).mono fun e w' ⟨x, y, he, hd, hb⟩ => ⟨_, he, ⟨x, y, rfl, hd⟩, hb⟩
set_option maxHeartbeats 16000000 in
theorem sums_walk (t : Tm) (a : Option Addr) (cap : Nat) (ds : List Du) (no : Int) (hp : wrap64 t.pr = t.pr) (hl : ds.length ≤ maxLen) (_ : (Lit.int .i64 no).wf = true) (w : World) (h : Ln.RowIn Ln.denc w a ds) (hs : Rd.Stp w) : Calls Tryd.prog 6 #[(.agg #[.int .i64 (t).me, .int .i64 (t).pr, .int .i64 (t).ppm, .int .i64 (t).stt, .int .i64 (t).ev, .int .i64 (t).ct, .int .i64 (t).ba, .int .i64 (t).mo, .int .i64 (t).pen, .int .i64 (t).fe, .string (t).cal, .string (t).cur]), .slice a ds.length cap, .int .i64 no] w fun e w' => e = .returned (.bool true) ∧ Below w.heap.size w w' := by
  have cw : Below w.heap.size w (w.alloc (.cells #[.int .i64 (t).me, .int .i64 (t).pr, .int .i64 (t).ppm, .int .i64 (t).stt, .int .i64 (t).ev, .int .i64 (t).ct, .int .i64 (t).ba, .int .i64 (t).mo, .int .i64 (t).pen, .int .i64 (t).fe, .string (t).cal, .string (t).cur] 23)) := (Below.refl _ _).alloc (Nat.le_refl _) _
  have kt : Bk.Blk (w.alloc (.cells #[.int .i64 (t).me, .int .i64 (t).pr, .int .i64 (t).ppm, .int .i64 (t).stt, .int .i64 (t).ev, .int .i64 (t).ct, .int .i64 (t).ba, .int .i64 (t).mo, .int .i64 (t).pen, .int .i64 (t).fe, .string (t).cal, .string (t).cur] 23)) w.heap.size #[.int .i64 (t).me, .int .i64 (t).pr, .int .i64 (t).ppm, .int .i64 (t).stt, .int .i64 (t).ev, .int .i64 (t).ct, .int .i64 (t).ba, .int .i64 (t).mo, .int .i64 (t).pen, .int .i64 (t).fe, .string (t).cal, .string (t).cur] 23 := Bk.Blk.nw10
  have hr := h.later cw
  have hS := hs.of cw
  have hn : ds.length ≤ 9223372036854775807 := by unfold maxLen at hl; omega
  clear hl
  clear h hs
  go_enter Tryd.func6, Tryd.ntmps6
  go_upto_region 1 with fail
  generalize (w.alloc (.cells #[.int .i64 (t).me, .int .i64 (t).pr, .int .i64 (t).ppm, .int .i64 (t).stt, .int .i64 (t).ev, .int .i64 (t).ct, .int .i64 (t).ba, .int .i64 (t).mo, .int .i64 (t).pen, .int .i64 (t).fe, .string (t).cal, .string (t).cur] 23)) = w1 at *
  have cw1 := cw
  clear cw
  by_cases a1 : ds.length ≤ 300
  · have hd := Ln.dues_of_row (by omega) hr
    clear hr
    go_wp2_with fail
    refine (stotal_any a cap ds _ hd).mono ?_
    rintro e w2 ⟨rfl, hb⟩
    replace kt := kt.later hb
    replace hS := hS.of hb
    replace hd := hd.later hb
    have cw2 := bl2 hb cw1
    clear hb cw1
    go_wp2_with fail
    refine (srtotal_any a cap ds _ hd).mono ?_
    rintro e w3 ⟨rfl, hb⟩
    replace kt := kt.later hb
    replace hS := hS.of hb
    replace hd := hd.later hb
    have cw3 := bl2 hb cw2
    clear hb cw2
    have HP := Lib.hid (fun W (hW : Ln.SQ w3 w.heap.size #[.int .i64 (t).me, .int .i64 (t).pr, .int .i64 (t).ppm, .int .i64 (t).stt, .int .i64 (t).ev, .int .i64 (t).ct, .int .i64 (t).ba, .int .i64 (t).mo, .int .i64 (t).pen, .int .i64 (t).fe, .string (t).cal, .string (t).cur] 23 W) => hS.of hW.2)
    have HD := Lib.hid (fun W (hW : Ln.SQ w3 w.heap.size #[.int .i64 (t).me, .int .i64 (t).pr, .int .i64 (t).ppm, .int .i64 (t).stt, .int .i64 (t).ev, .int .i64 (t).ct, .int .i64 (t).ba, .int .i64 (t).mo, .int .i64 (t).pen, .int .i64 (t).fe, .string (t).cal, .string (t).cur] 23 W) => hd.later hW.2)
    have HR1 := Lib.hid (fun W (hW : Ln.SQ w3 w.heap.size #[.int .i64 (t).me, .int .i64 (t).pr, .int .i64 (t).ppm, .int .i64 (t).stt, .int .i64 (t).ev, .int .i64 (t).ct, .int .i64 (t).ba, .int .i64 (t).mo, .int .i64 (t).pen, .int .i64 (t).fe, .string (t).cal, .string (t).cur] 23 W) => srest_any t a cap ds no W (HD.out W hW) hp)
    have HR2 := Lib.hid (fun W (hW : Ln.SQ w3 w.heap.size #[.int .i64 (t).me, .int .i64 (t).pr, .int .i64 (t).ppm, .int .i64 (t).stt, .int .i64 (t).ev, .int .i64 (t).ct, .int .i64 (t).ba, .int .i64 (t).mo, .int .i64 (t).pen, .int .i64 (t).fe, .string (t).cal, .string (t).cur] 23 W) => srrest_any t a cap ds no W (HD.out W hW) hp)
    have HU1 := Lib.hid (fun W (hW : Ln.SQ w3 w.heap.size #[.int .i64 (t).me, .int .i64 (t).pr, .int .i64 (t).ppm, .int .i64 (t).stt, .int .i64 (t).ev, .int .i64 (t).ct, .int .i64 (t).ba, .int .i64 (t).mo, .int .i64 (t).pen, .int .i64 (t).fe, .string (t).cal, .string (t).cur] 23 W) => until_pv a cap ds no W (HD.out W hW) (by omega))
    have HU2 := Lib.hid (fun W (hW : Ln.SQ w3 w.heap.size #[.int .i64 (t).me, .int .i64 (t).pr, .int .i64 (t).ppm, .int .i64 (t).stt, .int .i64 (t).ev, .int .i64 (t).ct, .int .i64 (t).ba, .int .i64 (t).mo, .int .i64 (t).pen, .int .i64 (t).fe, .string (t).cal, .string (t).cur] 23 W) => runtil_pv a cap ds no W (HD.out W hW) (by omega))
    clear hS hd hp
    have g1 : (P ds == P ds) = true := beq_self_eq_true _
    have g2 : (I ds == I ds) = true := beq_self_eq_true _
    have g3 : (rsW t.pr ds no == rsW t.pr ds no) = true := beq_self_eq_true _
    generalize P ds = p at *
    generalize I ds = i at *
    generalize rsW t.pr ds no = rs at *
    go_upto_region 5 with fail
    have hS0 : Ln.SQ w3 w.heap.size #[.int .i64 (t).me, .int .i64 (t).pr, .int .i64 (t).ppm, .int .i64 (t).stt, .int .i64 (t).ev, .int .i64 (t).ct, .int .i64 (t).ba, .int .i64 (t).mo, .int .i64 (t).pen, .int .i64 (t).fe, .string (t).cal, .string (t).cur] 23 w3.drew := ⟨kt.drew, (Below.refl _ _).drew⟩
    refine wp_region_held_drew (S := Ln.SQ w3 w.heap.size #[.int .i64 (t).me, .int .i64 (t).pr, .int .i64 (t).ppm, .int .i64 (t).stt, .int .i64 (t).ev, .int .i64 (t).ct, .int .i64 (t).ba, .int .i64 (t).mo, .int .i64 (t).pen, .int .i64 (t).fe, .string (t).cal, .string (t).cur] 23) (by kernel_rfl) hS0 (fun hS => ?_)
    clear hS0 kt
    refine take_at 0 (by decide) (v := ?_) (by kernel_rfl) (by kernel_rfl) (by kernel_rfl) (fun _ _ _ h => h) hS (Or.inl ⟨by rfl, ?_⟩) ?_
    rotate_left
    · intro W hW
      skip
      clear hW
      simp only [List.getElem_cons_zero, List.getElem_cons_succ]
      go_simp
      first | done | with_reducible rfl
    simp only [List.getElem_cons_zero, List.getElem_cons_succ, Act.put, List.setIfInBounds_toArray, List.set_cons_zero, List.set_cons_succ]
    refine take_at 1 (by decide) (v := ?_) (by kernel_rfl) (by kernel_rfl) (by kernel_rfl) (fun _ _ _ h => h) hS (Or.inl ⟨by rfl, ?_⟩) ?_
    rotate_left
    · intro W hW
      skip
      clear hW
      simp only [List.getElem_cons_zero, List.getElem_cons_succ]
      go_simp
      first | done | with_reducible rfl
    simp only [List.getElem_cons_zero, List.getElem_cons_succ, Act.put, List.setIfInBounds_toArray, List.set_cons_zero, List.set_cons_succ]
    refine take_at 2 (by decide) (v := ?_) (by kernel_rfl) (by kernel_rfl) (by kernel_rfl) (fun _ _ _ h => h) hS (Or.inl ⟨by rfl, ?_⟩) ?_
    rotate_left
    · intro W hW
      skip
      clear hW
      simp only [List.getElem_cons_zero, List.getElem_cons_succ]
      go_simp
      first | done | with_reducible rfl
    simp only [List.getElem_cons_zero, List.getElem_cons_succ, Act.put, List.setIfInBounds_toArray, List.set_cons_zero, List.set_cons_succ]
    refine take_at 3 (by decide) (v := ?_) (by kernel_rfl) (by kernel_rfl) (by kernel_rfl) (fun _ _ _ h => h) hS (Or.inl ⟨by rfl, ?_⟩) ?_
    rotate_left
    · intro W hW
      skip
      clear hW
      simp only [List.getElem_cons_zero, List.getElem_cons_succ]
      go_simp
      first | done | with_reducible rfl
    simp only [List.getElem_cons_zero, List.getElem_cons_succ, Act.put, List.setIfInBounds_toArray, List.set_cons_zero, List.set_cons_succ]
    refine take_at 4 (by decide) (v := ?_) (by kernel_rfl) (by kernel_rfl) (by kernel_rfl) (fun _ _ _ h => h) hS (Or.inl ⟨by rfl, ?_⟩) ?_
    rotate_left
    · intro W hW
      skip
      clear hW
      simp only [List.getElem_cons_zero, List.getElem_cons_succ]
      go_simp
      first | done | with_reducible rfl
    simp only [List.getElem_cons_zero, List.getElem_cons_succ, Act.put, List.setIfInBounds_toArray, List.set_cons_zero, List.set_cons_succ]
    refine take_at 5 (by decide) (v := ?_) (by kernel_rfl) (by kernel_rfl) (by kernel_rfl) (fun _ _ _ h => h) hS (Or.inl ⟨by rfl, ?_⟩) ?_
    rotate_left
    · intro W hW
      skip
      clear hW
      simp only [List.getElem_cons_zero, List.getElem_cons_succ]
      go_simp
      first | done | with_reducible rfl
    simp only [List.getElem_cons_zero, List.getElem_cons_succ, Act.put, List.setIfInBounds_toArray, List.set_cons_zero, List.set_cons_succ]
    refine take_at 6 (by decide) (v := ?_) (by kernel_rfl) (by kernel_rfl) (by kernel_rfl) (fun _ _ _ h => h) hS (Or.inl ⟨by rfl, ?_⟩) ?_
    rotate_left
    · intro W hW
      skip
      clear hW
      simp only [List.getElem_cons_zero, List.getElem_cons_succ]
      go_simp
      first | done | with_reducible rfl
    simp only [List.getElem_cons_zero, List.getElem_cons_succ, Act.put, List.setIfInBounds_toArray, List.set_cons_zero, List.set_cons_succ]
    refine take_at 7 (by decide) (v := ?_) (by kernel_rfl) (by kernel_rfl) (by kernel_rfl) (fun _ _ _ h => h) hS (Or.inl ⟨by rfl, ?_⟩) ?_
    rotate_left
    · intro W hW
      skip
      clear hW
      simp only [List.getElem_cons_zero, List.getElem_cons_succ]
      go_simp
      first | done | with_reducible rfl
    simp only [List.getElem_cons_zero, List.getElem_cons_succ, Act.put, List.setIfInBounds_toArray, List.set_cons_zero, List.set_cons_succ]
    refine take_at 8 (by decide) (v := ?_) (by kernel_rfl) (by kernel_rfl) (by kernel_rfl) (fun _ _ _ h => h) hS (Or.inl ⟨by rfl, ?_⟩) ?_
    rotate_left
    · intro W hW
      skip
      clear hW
      simp only [List.getElem_cons_zero, List.getElem_cons_succ]
      go_simp
      first | done | with_reducible rfl
    simp only [List.getElem_cons_zero, List.getElem_cons_succ, Act.put, List.setIfInBounds_toArray, List.set_cons_zero, List.set_cons_succ]
    refine take_at 9 (by decide) (by kernel_rfl) (by kernel_rfl) (by kernel_rfl) (fun _ _ _ h => h) hS (yields_load_row (by rfl) 23 (.tmp 3) rfl w.heap.size rfl _ _ _ _ (fun W hW => hW.1) Tryd.underlying23 rfl (by kernel_rfl)) ?_
    simp only [List.getElem_cons_zero, List.getElem_cons_succ, Act.put, List.setIfInBounds_toArray, List.set_cons_zero, List.set_cons_succ]
    refine take_at 10 (by decide) (v := ?_) (by kernel_rfl) (by kernel_rfl) (by kernel_rfl) (fun _ _ _ h => h) hS (Or.inl ⟨by rfl, ?_⟩) ?_
    rotate_left
    · intro W hW
      skip
      clear hW
      simp only [List.getElem_cons_zero, List.getElem_cons_succ]
      go_simp
      first | done | with_reducible rfl
    simp only [List.getElem_cons_zero, List.getElem_cons_succ, Act.put, List.setIfInBounds_toArray, List.set_cons_zero, List.set_cons_succ]
    refine take_at 11 (by decide) (v := ?_) (by kernel_rfl) (by kernel_rfl) (by kernel_rfl) (fun _ _ _ h => h) hS (Or.inl ⟨by rfl, ?_⟩) ?_
    rotate_left
    · intro W hW
      skip
      clear hW
      simp only [List.getElem_cons_zero, List.getElem_cons_succ]
      go_simp
      first | done | with_reducible rfl
    simp only [List.getElem_cons_zero, List.getElem_cons_succ, Act.put, List.setIfInBounds_toArray, List.set_cons_zero, List.set_cons_succ]
    refine take_at 13 (by decide) (by kernel_rfl) (by kernel_rfl) (by kernel_rfl) (fun _ _ _ h => h) hS (yields_load_row (by rfl) 23 (.tmp 3) rfl w.heap.size rfl _ _ _ _ (fun W hW => hW.1) Tryd.underlying23 rfl (by kernel_rfl)) ?_
    simp only [List.getElem_cons_zero, List.getElem_cons_succ, Act.put, List.setIfInBounds_toArray, List.set_cons_zero, List.set_cons_succ]
    refine take_at 14 (by decide) (v := ?_) (by kernel_rfl) (by kernel_rfl) (by kernel_rfl) (fun _ _ _ h => h) hS (Or.inl ⟨by rfl, ?_⟩) ?_
    rotate_left
    · intro W hW
      skip
      clear hW
      simp only [List.getElem_cons_zero, List.getElem_cons_succ]
      go_simp
      first | done | with_reducible rfl
    simp only [List.getElem_cons_zero, List.getElem_cons_succ, Act.put, List.setIfInBounds_toArray, List.set_cons_zero, List.set_cons_succ]
    refine take_at 15 (by decide) (v := ?_) (by kernel_rfl) (by kernel_rfl) (by kernel_rfl) (fun _ _ _ h => h) hS (Or.inl ⟨by rfl, ?_⟩) ?_
    rotate_left
    · intro W hW
      skip
      clear hW
      simp only [List.getElem_cons_zero, List.getElem_cons_succ]
      go_simp
      first | done | with_reducible rfl
    simp only [List.getElem_cons_zero, List.getElem_cons_succ, Act.put, List.setIfInBounds_toArray, List.set_cons_zero, List.set_cons_succ]
    refine call_at 12 (by decide) (Pi := (fun v _ => v = .int .i64 rs)) (by kernel_rfl) (by rfl) (by simp only [List.getElem_cons_zero, List.getElem_cons_succ]; go_simp; first | done | rfl | exact ⟨rfl, rfl⟩) (call_one Ln.SQ.mono hS (HR1.out _ hS)) ?_
    clear hS
    rintro w4 u hS rfl
    simp only [List.getElem_cons_zero, List.getElem_cons_succ, Act.put, List.setIfInBounds_toArray, List.set_cons_zero, List.set_cons_succ]
    refine call_at 16 (by decide) (Pi := (fun v _ => v = .int .i64 rs)) (by kernel_rfl) (by rfl) (by simp only [List.getElem_cons_zero, List.getElem_cons_succ]; go_simp; first | done | rfl | exact ⟨rfl, rfl⟩) (call_one Ln.SQ.mono hS (HR2.out _ hS)) ?_
    clear hS
    rintro w5 u hS rfl
    simp only [List.getElem_cons_zero, List.getElem_cons_succ, Act.put, List.setIfInBounds_toArray, List.set_cons_zero, List.set_cons_succ]
    refine take_at 17 (by decide) (v := ?_) (by kernel_rfl) (by kernel_rfl) (by kernel_rfl) (fun _ _ _ h => h) hS (Or.inl ⟨by rfl, ?_⟩) ?_
    rotate_left
    · intro W hW
      skip
      clear hW
      simp only [List.getElem_cons_zero, List.getElem_cons_succ]
      go_simp
      first | done | with_reducible rfl
    simp only [List.getElem_cons_zero, List.getElem_cons_succ, Act.put, List.setIfInBounds_toArray, List.set_cons_zero, List.set_cons_succ]
    refine take_at 18 (by decide) (v := ?_) (by kernel_rfl) (by kernel_rfl) (by kernel_rfl) (fun _ _ _ h => h) hS (Or.inl ⟨by rfl, ?_⟩) ?_
    rotate_left
    · intro W hW
      skip
      clear hW
      simp only [List.getElem_cons_zero, List.getElem_cons_succ]
      go_simp
      first | done | with_reducible rfl
    simp only [List.getElem_cons_zero, List.getElem_cons_succ, Act.put, List.setIfInBounds_toArray, List.set_cons_zero, List.set_cons_succ]
    refine take_at 19 (by decide) (v := ?_) (by kernel_rfl) (by kernel_rfl) (by kernel_rfl) (fun _ _ _ h => h) hS (Or.inl ⟨by rfl, ?_⟩) ?_
    rotate_left
    · intro W hW
      skip
      clear hW
      simp only [List.getElem_cons_zero, List.getElem_cons_succ]
      go_simp
      first | done | with_reducible rfl
    simp only [List.getElem_cons_zero, List.getElem_cons_succ, Act.put, List.setIfInBounds_toArray, List.set_cons_zero, List.set_cons_succ]
    refine take_at 20 (by decide) (v := ?_) (by kernel_rfl) (by kernel_rfl) (by kernel_rfl) (fun _ _ _ h => h) hS (Or.inl ⟨by rfl, ?_⟩) ?_
    rotate_left
    · intro W hW
      skip
      clear hW
      simp only [List.getElem_cons_zero, List.getElem_cons_succ]
      go_simp
      first | done | with_reducible rfl
    simp only [List.getElem_cons_zero, List.getElem_cons_succ, Act.put, List.setIfInBounds_toArray, List.set_cons_zero, List.set_cons_succ]
    refine take_at 21 (by decide) (v := ?_) (by kernel_rfl) (by kernel_rfl) (by kernel_rfl) (fun _ _ _ h => h) hS (Or.inl ⟨by rfl, ?_⟩) ?_
    rotate_left
    · intro W hW
      skip
      clear hW
      simp only [List.getElem_cons_zero, List.getElem_cons_succ]
      go_simp
      first | done | with_reducible rfl
    simp only [List.getElem_cons_zero, List.getElem_cons_succ, Act.put, List.setIfInBounds_toArray, List.set_cons_zero, List.set_cons_succ]
    refine take_at 23 (by decide) (v := ?_) (by kernel_rfl) (by kernel_rfl) (by kernel_rfl) (fun _ _ _ h => h) hS (Or.inl ⟨by rfl, ?_⟩) ?_
    rotate_left
    · intro W hW
      skip
      clear hW
      simp only [List.getElem_cons_zero, List.getElem_cons_succ]
      go_simp
      first | done | with_reducible rfl
    simp only [List.getElem_cons_zero, List.getElem_cons_succ, Act.put, List.setIfInBounds_toArray, List.set_cons_zero, List.set_cons_succ]
    refine take_at 24 (by decide) (v := ?_) (by kernel_rfl) (by kernel_rfl) (by kernel_rfl) (fun _ _ _ h => h) hS (Or.inl ⟨by rfl, ?_⟩) ?_
    rotate_left
    · intro W hW
      skip
      clear hW
      simp only [List.getElem_cons_zero, List.getElem_cons_succ]
      go_simp
      first | done | with_reducible rfl
    simp only [List.getElem_cons_zero, List.getElem_cons_succ, Act.put, List.setIfInBounds_toArray, List.set_cons_zero, List.set_cons_succ]
    refine call_at 22 (by decide) (Pi := UP (Ln.due ds no)) (by kernel_rfl) (by rfl) (by simp only [List.getElem_cons_zero, List.getElem_cons_succ]; go_simp; first | done | rfl | exact ⟨rfl, rfl⟩) (call_pv Ln.SQ.mono hS (HU1.out _ hS)) ?_
    clear hS
    rintro w6 u hS hu
    simp only [List.getElem_cons_zero, List.getElem_cons_succ, Act.put, List.setIfInBounds_toArray, List.set_cons_zero, List.set_cons_succ]
    refine call_at 25 (by decide) (Pi := fun v w' => UP (Ln.due ds no) v w' ∧ UP (Ln.due ds no) u w') (by kernel_rfl) (by rfl) (by simp only [List.getElem_cons_zero, List.getElem_cons_succ]; go_simp; first | done | rfl | exact ⟨rfl, rfl⟩) (call_pk Ln.SQ.mono UP.mono hS hu (HU2.out _ hS)) ?_
    clear hS hu
    rintro w7 u2 hS ⟨⟨x2, y2, rfl, r2⟩, ⟨x1, y1, rfl, r1⟩⟩
    simp only [List.getElem_cons_zero, List.getElem_cons_succ, Act.put, List.setIfInBounds_toArray, List.set_cons_zero, List.set_cons_succ]
    refine call_at 26 (by decide) (Pi := (fun v _ => v = .bool true)) (by kernel_rfl) (by rfl) (by simp only [List.getElem_cons_zero, List.getElem_cons_succ]; go_simp; first | done | rfl | exact ⟨rfl, rfl⟩) (call_one Ln.SQ.mono hS (rsame_any x1 x2 y1 y2 (Ln.due ds no) _ r1 r2)) ?_
    clear hS
    rintro w8 u hS rfl
    simp only [List.getElem_cons_zero, List.getElem_cons_succ, Act.put, List.setIfInBounds_toArray, List.set_cons_zero, List.set_cons_succ]
    clear r1 r2
    refine take_at 27 (by decide) (v := ?_) (by kernel_rfl) (by kernel_rfl) (by kernel_rfl) (fun _ _ _ h => h) hS (Or.inl ⟨by rfl, ?_⟩) ?_
    rotate_left
    · intro W hW
      skip
      clear hW
      simp only [List.getElem_cons_zero, List.getElem_cons_succ]
      go_simp
      first | done | with_reducible rfl
    simp only [List.getElem_cons_zero, List.getElem_cons_succ, Act.put, List.setIfInBounds_toArray, List.set_cons_zero, List.set_cons_succ]
    refine take_at 28 (by decide) (v := ?_) (by kernel_rfl) (by kernel_rfl) (by kernel_rfl) (fun _ _ _ h => h) hS (Or.inl ⟨by rfl, ?_⟩) ?_
    rotate_left
    · intro W hW
      skip
      clear hW
      simp only [List.getElem_cons_zero, List.getElem_cons_succ]
      go_simp
      first | done | with_reducible rfl
    simp only [List.getElem_cons_zero, List.getElem_cons_succ, Act.put, List.setIfInBounds_toArray, List.set_cons_zero, List.set_cons_succ]
    refine call_at 29 (by decide) (Pi := (fun v _ => v = .bool true)) (by kernel_rfl) (by rfl) (by simp only [List.getElem_cons_zero, List.getElem_cons_succ]; go_simp; first | done | rfl | exact ⟨rfl, rfl⟩) (call_one Ln.SQ.mono hS (lives_any _ (HP.out _ hS))) ?_
    clear hS
    rintro w9 u hS rfl
    simp only [List.getElem_cons_zero, List.getElem_cons_succ, Act.put, List.setIfInBounds_toArray, List.set_cons_zero, List.set_cons_succ]
    refine take_at 30 (by decide) (v := ?_) (by kernel_rfl) (by kernel_rfl) (by kernel_rfl) (fun _ _ _ h => h) hS (Or.inl ⟨by rfl, ?_⟩) ?_
    rotate_left
    · intro W hW
      skip
      clear hW
      simp only [List.getElem_cons_zero, List.getElem_cons_succ]
      go_simp
      first | done | with_reducible rfl
    simp only [List.getElem_cons_zero, List.getElem_cons_succ, Act.put, List.setIfInBounds_toArray, List.set_cons_zero, List.set_cons_succ]
    refine take_at 31 (by decide) (v := ?_) (by kernel_rfl) (by kernel_rfl) (by kernel_rfl) (fun _ _ _ h => h) hS (Or.inl ⟨by rfl, ?_⟩) ?_
    rotate_left
    · intro W hW
      skip
      clear hW
      simp only [List.getElem_cons_zero, List.getElem_cons_succ]
      go_simp
      first | done | with_reducible rfl
    simp only [List.getElem_cons_zero, List.getElem_cons_succ, Act.put, List.setIfInBounds_toArray, List.set_cons_zero, List.set_cons_succ]
    refine wpAnyH_done (by kernel_rfl) ?_ _
    go_wp2_with fail
    go_ret
    exact ⟨rfl, Ln.bl2 hS.2 cw3⟩
  · go_wp2_with fail
    refine (lives_any _ hS).mono ?_
    rintro e wl ⟨rfl, hb⟩
    have cwl := bl2 hb cw1
    clear hb cw1
    go_wp2_with fail
    go_ret
    exact ⟨rfl, cwl⟩
end Go.Proofs.YtmdjikmpgckpbaaDoor.Kl
