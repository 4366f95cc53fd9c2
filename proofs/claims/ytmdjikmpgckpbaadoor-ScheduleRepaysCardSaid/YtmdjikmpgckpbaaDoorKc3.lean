/-
  Calendars: within; Check: the program's and the reference's.
-/
import Derived.Test.YtmdjikmpgckpbaaDoorKc2
namespace Go.Proofs.YtmdjikmpgckpbaaDoor.Kl
open Go.RowKit
open Go.Proofs.YtmdjikmpgckpbaaDoor
set_option linter.unusedSimpArgs false
set_option maxRecDepth 100000

theorem containsf_any (g : Nat) (lb : Array Value) (p : Int → Bool) (a : Option Addr) (cap : Nat) (l : List Int) (w : World) (h : Bk.IntsIn w a l) (eg : ∀ args w, (callFunc g args).run Tryd.prog w = .ok (.enter g args) w)
    (hp : ∀ (n : Int) (W : World), Below w.heap.size w W → Calls Tryd.prog g (#[.int .i64 n] ++ lb) W fun e w' => e = .returned (.bool (p n)) ∧ Below W.heap.size W w') :
    Calls Tryd.prog 72 #[.slice a l.length cap, .func (.func g) #[] lb] w fun e w' => e = .returned (.bool (!nonB l p)) ∧ Below w.heap.size w w' := by
  have HC := Lib.hid (indexf_any g lb p a cap l w h eg hp)
  clear h hp
  go_enter Tryd.func72, Tryd.ntmps72
  go_wp2_with fail
  refine HC.out.mono ?_
  rintro e w1 ⟨⟨r, rfl, hr⟩, hb⟩
  by_cases h0 : r < 0
  · have HF := Lib.hid (show (!nonB l p) = false by rw [hr, decide_eq_true h0]; rfl)
    go_wp2_with fail
    go_ret
    exact ⟨by rw [HF.out]; first | rfl | (simp; omega), hb⟩
  · have HF := Lib.hid (show (!nonB l p) = true by rw [hr, decide_eq_false h0]; rfl)
    go_wp2_with fail
    go_ret
    exact ⟨by rw [HF.out]; first | rfl | (simp; omega), hb⟩
/-- The closure of within. -/
def outB (a b n : Int) : Bool := decide (n < a) || decide (b < n)
theorem within1_any (n a b : Int) (g1 g2 : Nat) (w : World) (h1 : Bk.Blk w g1 #[.int .i64 a] 3) (h2 : Bk.Blk w g2 #[.int .i64 b] 3) :
    Calls Tryd.prog 73 #[.int .i64 n, .pointer (some ⟨g1, 0, none⟩), .pointer (some ⟨g2, 0, none⟩)] w fun e w' => e = .returned (.bool (outB a b n)) ∧ Below w.heap.size w w' := by
  have c1 := h1.c0
  have c2 := h2.c0
  unfold outB
  clear h1 h2
  by_cases k1 : n < a
  · rw [decide_eq_true k1, Bool.true_or]
    go_enter Tryd.func73, Tryd.ntmps73
    go_wp2_with fail
    go_ret
    exact ⟨by simp, Below.refl _ _⟩
  · rw [decide_eq_false k1, Bool.false_or]
    go_enter Tryd.func73, Tryd.ntmps73
    go_wp2_with fail
    go_ret
    exact ⟨by simp, Below.refl _ _⟩
theorem inB_non (l : List Int) (a b : Int) : inB l a b = nonB l (outB a b) := by
  unfold inB nonB
  congr 1
  funext j
  unfold outB
  by_cases h1 : l.getD j 0 < a
  · rw [decide_eq_true h1, decide_eq_false (by omega)]; rfl
  · by_cases h2 : b < l.getD j 0
    · rw [decide_eq_true h2, decide_eq_false (by omega), Bool.or_true]; rfl
    · rw [decide_eq_false h1, decide_eq_false h2, decide_eq_true (by omega)]; rfl
theorem within_any (a : Option Addr) (cap : Nat) (l : List Int) (x y : Int) (w : World) (h : Bk.IntsIn w a l) :
    Calls Tryd.prog 49 #[.slice a l.length cap, .int .i64 x, .int .i64 y] w fun e w' => e = .returned (.bool (inB l x y)) ∧ Below w.heap.size w w' := by
  have cw : Below w.heap.size w ((w.alloc (.cells #[.int .i64 x] 3)).alloc (.cells #[.int .i64 y] 3)) := ((Below.refl _ _).alloc (Nat.le_refl _) _).alloc (by simp) _
  have k1 : Bk.Blk ((w.alloc (.cells #[.int .i64 x] 3)).alloc (.cells #[.int .i64 y] 3)) w.heap.size #[.int .i64 x] 3 := Bk.Blk.nw20
  have k2 : Bk.Blk ((w.alloc (.cells #[.int .i64 x] 3)).alloc (.cells #[.int .i64 y] 3)) (w.heap.size + 1) #[.int .i64 y] 3 := Bk.Blk.nw21
  have HN := Lib.hid (inB_non l x y)
  have hi := ints_later cw h
  clear h
  go_enter Tryd.func49, Tryd.ntmps49
  go_upto_region 1 with fail
  generalize ((w.alloc (.cells #[.int .i64 x] 3)).alloc (.cells #[.int .i64 y] 3)) = w1 at *
  have HC := Lib.hid (containsf_any 73 #[.pointer (some ⟨w.heap.size, 0, none⟩), .pointer (some ⟨w.heap.size + 1, 0, none⟩)] (outB x y) a cap l w1 hi (fun _ _ => rfl) (fun n W hW => within1_any n x y _ _ W (k1.later hW) (k2.later hW)))
  go_wp2_with fail
  refine HC.out.mono ?_
  rintro e w2 ⟨rfl, hb⟩
  have cw2 := bl2 hb cw
  go_wp2_with fail
  go_ret
  exact ⟨by rw [HN.out]; try rfl, cw2⟩
set_option maxHeartbeats 8000000 in
theorem clchk_any (c : Cl) (wa ha : Option Addr) (wc hc : Nat) (w : World) (h : CalIn w c wa ha) : Calls Tryd.prog 30 #[(.agg #[.string (c).nm, .slice wa (c).wk.length wc, .slice ha (c).hol.length hc])] w fun e w' => e = .returned (.int .i64 (clE c)) ∧ Below w.heap.size w w' := by
  have cw : Below w.heap.size w (w.alloc (.cells #[.string c.nm, .slice wa c.wk.length wc, .slice ha c.hol.length hc] 26)) := (Below.refl _ _).alloc (Nat.le_refl _) _
  have k0 : Bk.Blk (w.alloc (.cells #[.string c.nm, .slice wa c.wk.length wc, .slice ha c.hol.length hc] 26)) w.heap.size #[.string c.nm, .slice wa c.wk.length wc, .slice ha c.hol.length hc] 26 := Bk.Blk.nw10
  have hi := h.later cw
  have hw7 := hi.wk.1
  have hh7 := hi.hol.1
  clear h
  go_enter Tryd.func30, Tryd.ntmps30
  go_upto_region 1 with fail
  generalize (w.alloc (.cells #[.string c.nm, .slice wa c.wk.length wc, .slice ha c.hol.length hc] 26)) = w1 at *
  have cw1 := cw
  clear cw
  have l0 := k0.c0
  have l1 := k0.c1
  have l2 := k0.c2
  go_wp2_with fail
  clear l0 l1 l2
  refine (name_any c.nm _ hi.nm).mono ?_
  rintro e w2 ⟨rfl, rfl⟩
  have cw2 := cw1
  clear cw1
  have l0 := k0.c0
  have l1 := k0.c1
  have l2 := k0.c2
  cases hn : nameB c.nm
  · have HF := Lib.hid (show clE c = 4 by unfold clE; rw [if_pos hn])
    go_wp2_with fail
    go_ret
    exact ⟨by rw [HF.out]; try rfl, cw2⟩
  · by_cases h7 : 7 ≤ c.wk.length
    · have HF := Lib.hid (show clE c = 1 by unfold clE; rw [if_neg (by rw [hn]; simp)]; rw [if_pos (by exact .inl h7)])
      go_wp2_with fail
      go_ret
      exact ⟨by rw [HF.out]; try rfl, cw2⟩
    · go_wp2_with fail
      clear l0 l1 l2
      refine (within_any wa wc c.wk 0 6 _ hi.wk).mono ?_
      rintro e w3 ⟨rfl, hb⟩
      replace k0 := k0.later hb
      replace hi := hi.later hb
      have cw3 := bl2 hb cw2
      clear hb cw2
      have l0 := k0.c0
      have l1 := k0.c1
      have l2 := k0.c2
      cases hi6 : inB c.wk 0 6
      · have HF := Lib.hid (show clE c = 1 by unfold clE; rw [if_neg (by rw [hn]; simp)]; rw [if_pos (by exact .inr (.inl hi6))])
        go_wp2_with fail
        go_ret
        exact ⟨by rw [HF.out]; try rfl, cw3⟩
      · go_wp2_with fail
        clear l0 l1 l2
        refine (rises_any wa wc c.wk _ hi.wk).mono ?_
        rintro e w4 ⟨rfl, hb⟩
        replace k0 := k0.later hb
        replace hi := hi.later hb
        have cw4 := bl2 hb cw3
        clear hb cw3
        have l0 := k0.c0
        have l1 := k0.c1
        have l2 := k0.c2
        cases hr6 : risesB c.wk
        · have HF := Lib.hid (show clE c = 1 by unfold clE; rw [if_neg (by rw [hn]; simp)]; rw [if_pos (by exact .inr (.inr hr6))])
          go_wp2_with fail
          go_ret
          exact ⟨by rw [HF.out]; try rfl, cw4⟩
        · by_cases h4 : 400 < c.hol.length
          · have HF := Lib.hid (show clE c = 5 by unfold clE; rw [if_neg (by rw [hn]; simp)]; rw [if_neg (by rw [hi6, hr6]; simp; omega)]; rw [if_pos (by exact h4)])
            go_wp2_with fail
            go_ret
            exact ⟨by rw [HF.out]; try rfl, cw4⟩
          · go_wp2_with fail
            clear l0 l1 l2
            refine (within_any ha hc c.hol 0 73048 _ hi.hol).mono ?_
            rintro e w5 ⟨rfl, hb⟩
            replace k0 := k0.later hb
            replace hi := hi.later hb
            have cw5 := bl2 hb cw4
            clear hb cw4
            have l0 := k0.c0
            have l1 := k0.c1
            have l2 := k0.c2
            cases hj : inB c.hol 0 73048
            · have HF := Lib.hid (show clE c = 1 by unfold clE; rw [if_neg (by rw [hn]; simp)]; rw [if_neg (by rw [hi6, hr6]; simp; omega)]; rw [if_neg (by omega)]; rw [if_pos (by exact hj)])
              go_wp2_with fail
              go_ret
              exact ⟨by rw [HF.out]; try rfl, cw5⟩
            · go_wp2_with fail
              clear l0 l1 l2
              refine (rises_any ha hc c.hol _ hi.hol).mono ?_
              rintro e w6 ⟨rfl, hb⟩
              replace k0 := k0.later hb
              replace hi := hi.later hb
              have cw6 := bl2 hb cw5
              clear hb cw5
              have l0 := k0.c0
              have l1 := k0.c1
              have l2 := k0.c2
              cases hs : risesB c.hol
              · have HF := Lib.hid (show clE c = 10 by unfold clE; rw [if_neg (by rw [hn]; simp)]; rw [if_neg (by rw [hi6, hr6]; simp; omega)]; rw [if_neg (by omega)]; rw [if_neg (by rw [hj]; simp)]; rw [if_pos (by exact hs)])
                go_wp2_with fail
                go_ret
                exact ⟨by rw [HF.out]; try rfl, cw6⟩
              · have HF := Lib.hid (show clE c = 0 by unfold clE; rw [if_neg (by rw [hn]; simp)]; rw [if_neg (by rw [hi6, hr6]; simp; omega)]; rw [if_neg (by omega)]; rw [if_neg (by rw [hj]; simp)]; rw [if_neg (by rw [hs]; simp)])
                go_wp2_with fail
                go_ret
                exact ⟨by rw [HF.out]; try rfl, cw6⟩
/-- Where a loop over the numbers of a list stands. -/
def InR (w : World) (l : List Int) (a b : Int) (g : Nat) (s3 : Value) (W : World) : Prop := ∃ k : Nat, k + g = l.length ∧ s3 = .int .i64 k ∧ (∀ j, j < k → (fun j => decide (a ≤ l.getD j 0 ∧ l.getD j 0 ≤ b)) j = true) ∧ w = W
set_option maxHeartbeats 8000000 in
theorem rclchk_any (c : Cl) (wa ha : Option Addr) (wc hc : Nat) (w : World) (h : CalIn w c wa ha) : Calls Tryd.prog 35 #[(.agg #[.string (c).nm, .slice wa (c).wk.length wc, .slice ha (c).hol.length hc])] w fun e w' => e = .returned (.int .i64 (clE c)) ∧ Below w.heap.size w w' := by
  have cw : Below w.heap.size w (w.alloc (.cells #[.string c.nm, .slice wa c.wk.length wc, .slice ha c.hol.length hc] 26)) := (Below.refl _ _).alloc (Nat.le_refl _) _
  have k0 : Bk.Blk (w.alloc (.cells #[.string c.nm, .slice wa c.wk.length wc, .slice ha c.hol.length hc] 26)) w.heap.size #[.string c.nm, .slice wa c.wk.length wc, .slice ha c.hol.length hc] 26 := Bk.Blk.nw10
  have hi := h.later cw
  have hw7 := hi.wk.1
  have hh7 := hi.hol.1
  clear h
  go_enter Tryd.func35, Tryd.ntmps35
  go_upto_region 1 with fail
  generalize (w.alloc (.cells #[.string c.nm, .slice wa c.wk.length wc, .slice ha c.hol.length hc] 26)) = w1 at *
  have cw1 := cw
  clear cw
  have l0 := k0.c0
  have l1 := k0.c1
  have l2 := k0.c2
  go_wp2_with fail
  refine (rname_any c.nm _ hi.nm).mono ?_
  rintro e w' ⟨rfl, rfl⟩
  cases hn : nameB c.nm
  · have HF := Lib.hid (show clE c = 4 by unfold clE; rw [if_pos hn])
    go_wp2_with fail
    go_ret
    exact ⟨by rw [HF.out]; try rfl, cw1⟩
  · go_wp2_with fail
    go_loopg [3] c.wk.length (InR w1 c.wk 0 6)
    case atStart => exact ⟨0, by omega, rfl, fun j hj => by omega, rfl⟩
    case round =>
      obtain ⟨k, hk, rfl, hall, rfl⟩ := hrel
      have HA := Lib.hid hall
      clear hall
      by_cases hlt : k < c.wk.length
      · obtain ⟨bb, off, hae, hc'⟩ := hi.wk.2 (by omega)
        have c0 := hc' k hlt
        clear hc'
        rw [hae] at l1
        have HB := Lib.hid (fun h => inB_no (l := c.wk) (a := 0) (b := 6) hlt h)
        have HP := Lib.hid (fun (h : decide (0 ≤ c.wk.getD k 0 ∧ c.wk.getD k 0 ≤ 6) = true) => nm_step HA.out h)
        generalize c.wk.getD k 0 = x at *
        clear hae
        by_cases x0 : x < 0
        · have hj := HB.out (decide_eq_false (by omega))
          have HF := Lib.hid (show clE c = 1 by unfold clE; rw [if_neg (by rw [hn]; simp)]; rw [if_pos (by exact .inr (.inl hj))])
          go_wp2_with fail
          go_ret
          exact ⟨by rw [HF.out]; try rfl, cw1⟩
        · by_cases x1 : 6 < x
          · have hj := HB.out (decide_eq_false (by omega))
            have HF := Lib.hid (show clE c = 1 by unfold clE; rw [if_neg (by rw [hn]; simp)]; rw [if_pos (by exact .inr (.inl hj))])
            go_wp2_with fail
            go_ret
            exact ⟨by rw [HF.out]; try rfl, cw1⟩
          · have hp := HP.out (decide_eq_true (by omega))
            clear HP HB
            go_wp2_with fail
            go_roundg (gk - 1)
            case measure => omega
            case rel => exact ⟨k + 1, by omega, by go_num, hp, rfl⟩
      · have hi6 := inB_yes (l := c.wk) (a := 0) (b := 6) (fun j hj => HA.out j (by omega))
        clear HA
        by_cases h7 : 7 ≤ c.wk.length
        · have HF := Lib.hid (show clE c = 1 by unfold clE; rw [if_neg (by rw [hn]; simp)]; rw [if_pos (by exact .inl h7)])
          go_wp2_with fail
          go_ret
          exact ⟨by rw [HF.out]; try rfl, cw1⟩
        · go_wp2_with fail
          clear l0 l1 l2
          refine (rrises_any wa wc c.wk _ hi.wk).mono ?_
          rintro e w2 ⟨rfl, hb⟩
          replace k0 := k0.later hb
          replace hi := hi.later hb
          have cw2 := bl2 hb cw1
          clear hb cw1
          have l0 := k0.c0
          have l1 := k0.c1
          have l2 := k0.c2
          cases hr6 : risesB c.wk
          · have HF := Lib.hid (show clE c = 1 by unfold clE; rw [if_neg (by rw [hn]; simp)]; rw [if_pos (by exact .inr (.inr hr6))])
            go_wp2_with fail
            go_ret
            exact ⟨by rw [HF.out]; try rfl, cw2⟩
          · by_cases h4 : 400 < c.hol.length
            · have HF := Lib.hid (show clE c = 5 by unfold clE; rw [if_neg (by rw [hn]; simp)]; rw [if_neg (by rw [hi6, hr6]; simp; omega)]; rw [if_pos (by exact h4)])
              go_wp2_with fail
              go_ret
              exact ⟨by rw [HF.out]; try rfl, cw2⟩
            · go_wp2_with fail
              go_loopg [4] c.hol.length (InR w2 c.hol 0 73048)
              case atStart => exact ⟨0, by omega, rfl, fun j hj => by omega, rfl⟩
              case round =>
                obtain ⟨k, hk, rfl, hall, rfl⟩ := hrel
                have HA := Lib.hid hall
                clear hall
                by_cases hlt : k < c.hol.length
                · obtain ⟨bb, off, hae, hc'⟩ := hi.hol.2 (by omega)
                  have c0 := hc' k hlt
                  clear hc'
                  rw [hae] at l2
                  have HB := Lib.hid (fun h => inB_no (l := c.hol) (a := 0) (b := 73048) hlt h)
                  have HP := Lib.hid (fun (h : decide (0 ≤ c.hol.getD k 0 ∧ c.hol.getD k 0 ≤ 73048) = true) => nm_step HA.out h)
                  generalize c.hol.getD k 0 = x at *
                  clear hae
                  by_cases x0 : x < 0 ∨ 73048 < x
                  · have hj := HB.out (decide_eq_false (by omega))
                    have HF := Lib.hid (show clE c = 1 by unfold clE; rw [if_neg (by rw [hn]; simp)]; rw [if_neg (by rw [hi6, hr6]; simp; omega)]; rw [if_neg (by omega)]; rw [if_pos (by exact hj)])
                    go_wp2_with fail
                    refine (Dt.rvalid_no x _ x0).mono ?_
                    rintro e w' ⟨rfl, rfl⟩
                    go_wp2_with fail
                    go_ret
                    exact ⟨by rw [HF.out]; try rfl, cw2⟩
                  · have hp := HP.out (decide_eq_true (by omega))
                    clear HP HB
                    go_wp2_with fail
                    refine (Dt.rvalid_yes x _ (by omega) (by omega)).mono ?_
                    rintro e w' ⟨rfl, rfl⟩
                    go_wp2_with fail
                    go_roundg (gk - 1)
                    case measure => omega
                    case rel => exact ⟨k + 1, by omega, by go_num, hp, rfl⟩
                · have hj := inB_yes (l := c.hol) (a := 0) (b := 73048) (fun j hj => HA.out j (by omega))
                  clear HA
                  go_wp2_with fail
                  clear l0 l1 l2
                  refine (rrises_any ha hc c.hol _ hi.hol).mono ?_
                  rintro e w3 ⟨rfl, hb⟩
                  replace k0 := k0.later hb
                  replace hi := hi.later hb
                  have cw3 := bl2 hb cw2
                  clear hb cw2
                  have l0 := k0.c0
                  have l1 := k0.c1
                  have l2 := k0.c2
                  cases hs : risesB c.hol
                  · have HF := Lib.hid (show clE c = 10 by unfold clE; rw [if_neg (by rw [hn]; simp)]; rw [if_neg (by rw [hi6, hr6]; simp; omega)]; rw [if_neg (by omega)]; rw [if_neg (by rw [hj]; simp)]; rw [if_pos (by exact hs)])
                    go_wp2_with fail
                    go_ret
                    exact ⟨by rw [HF.out]; try rfl, cw3⟩
                  · have HF := Lib.hid (show clE c = 0 by unfold clE; rw [if_neg (by rw [hn]; simp)]; rw [if_neg (by rw [hi6, hr6]; simp; omega)]; rw [if_neg (by omega)]; rw [if_neg (by rw [hj]; simp)]; rw [if_neg (by rw [hs]; simp)])
                    go_wp2_with fail
                    go_ret
                    exact ⟨by rw [HF.out]; try rfl, cw3⟩
end Go.Proofs.YtmdjikmpgckpbaaDoor.Kl
