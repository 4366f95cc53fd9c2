/-
  Split of both, for no weights; the walk of the statement RoundingParts.
-/
import Derived.Test.YtieklkpjlbpnbaaDoorLRd0
import Derived.Test.YtieklkpjlbpnbaaDoorSpl
import Derived.Test.YtieklkpjlbpnbaaDoorCel
namespace Go.Proofs.YtieklkpjlbpnbaaDoor.Sp
open Go.RowKit
open Go.Proofs.YtieklkpjlbpnbaaDoor
open Go.Proofs.YtieklkpjlbpnbaaDoor.Wm Go.Proofs.YtieklkpjlbpnbaaDoor.Wt Go.Proofs.YtieklkpjlbpnbaaDoor.Rd

theorem split_nil (a : Int) (p : Option Addr) (cap : Nat) (w : World) : Calls Tryd.prog 24 #[.int .i64 a, .slice p 0 cap] w fun e w' => e = .returned (.tuple #[.slice none 0 0, .int .i64 1]) ∧ w = w' := by
  have hn : ¬ rng [] := fun h => by have := h.1.1; simp at this
  have ct := total_nil p cap w
  rw [(t_no hn).1, (t_no hn).2] at ct
  have CT := Lib.hid ct
  clear ct hn
  by_cases hg : gd a
  · have CG := Lib.hid (good_yes a w hg)
    clear hg
    go_enter Tryd.func24, Tryd.ntmps24
    go_wp2_with fail
    refine (CT.out).mono ?_
    rintro e w' ⟨rfl, rfl⟩
    go_wp2_with fail
    refine (CG.out).mono ?_
    rintro e w' ⟨rfl, rfl⟩
    go_wp2_with fail
    go_ret2
    exact ⟨rfl, rfl⟩
  · have CG := Lib.hid (good_no a w hg)
    clear hg
    go_enter Tryd.func24, Tryd.ntmps24
    go_wp2_with fail
    refine (CT.out).mono ?_
    rintro e w' ⟨rfl, rfl⟩
    go_wp2_with fail
    refine (CG.out).mono ?_
    rintro e w' ⟨rfl, rfl⟩
    go_wp2_with fail
    go_ret2
    exact ⟨rfl, rfl⟩
theorem rsplit_nil (a : Int) (p : Option Addr) (cap : Nat) (w : World) : Calls Tryd.prog 25 #[.int .i64 a, .slice p 0 cap] w fun e w' => e = .returned (.tuple #[.slice none 0 0, .int .i64 1]) ∧ w = w' := by
  have hn : ¬ rng [] := fun h => by have := h.1.1; simp at this
  have ct := rtotal_nil p cap w
  rw [(t_no hn).1, (t_no hn).2] at ct
  have CT := Lib.hid ct
  clear ct hn
  by_cases hg : gd a
  · have CG := Lib.hid (rgood_yes a w hg)
    clear hg
    go_enter Tryd.func25, Tryd.ntmps25
    go_wp2_with fail
    refine (CT.out).mono ?_
    rintro e w' ⟨rfl, rfl⟩
    go_wp2_with fail
    refine (CG.out).mono ?_
    rintro e w' ⟨rfl, rfl⟩
    go_wp2_with fail
    go_ret2
    exact ⟨rfl, rfl⟩
  · have CG := Lib.hid (rgood_no a w hg)
    clear hg
    go_enter Tryd.func25, Tryd.ntmps25
    go_wp2_with fail
    refine (CT.out).mono ?_
    rintro e w' ⟨rfl, rfl⟩
    go_wp2_with fail
    refine (CG.out).mono ?_
    rintro e w' ⟨rfl, rfl⟩
    go_wp2_with fail
    go_ret2
    exact ⟨rfl, rfl⟩
/-- Where the comparison of the parts stands. -/
def PL (w : World) (g1 B g2 c : Nat) (o : List Int) (g : Nat) (s9 : Value) (W : World) : Prop := ∃ j : Nat, j + g = o.length ∧ s9 = .int .i64 j ∧ Bk.Blk W g1 (ints o) 3 ∧ Row W B g2 c o ∧ Below w.heap.size w W
def PL0 (w0 : World) (_ : Nat) (s9 : Value) (W : World) : Prop := s9 = .int .i64 0 ∧ W = w0
set_option maxHeartbeats 4000000 in
theorem parts_none (a : Int) (p : Option Addr) (cap : Nat) (w : World) (hS : Stp w) : Calls Tryd.prog 6 #[.int .i64 a, .slice p 0 cap] w fun e w' => e = .returned (.bool true) ∧ Below w.heap.size w w' := by
  have HL := Lib.hid (fun (W : World) (hS : Stp W) => live_any W hS)
  have H1 := Lib.hid (split_nil a p cap w)
  have H2 := Lib.hid (rsplit_nil a p cap w)
  go_enter Tryd.func6, Tryd.ntmps6
  go_wp2_with fail
  refine (H1.out).mono ?_
  rintro e w' ⟨rfl, rfl⟩
  go_wp2_with fail
  refine (H2.out).mono ?_
  rintro e w' ⟨rfl, rfl⟩
  go_wp2_with fail
  go_loopg [9] 0 (PL0 w)
  case atStart => exact ⟨rfl, rfl⟩
  case round =>
    obtain ⟨rfl, rfl⟩ := hrel
    go_wp2_with fail
    refine (HL.out _ hS).mono ?_
    rintro e w' ⟨rfl, hb⟩
    go_wp2_with fail
    go_ret
    exact ⟨rfl, hb⟩
set_option maxHeartbeats 4000000 in
theorem parts_row (a : Int) (b off cap : Nat) (ws : List Int) (w : World) (hS : Stp w) (hne : 0 < ws.length) (hm : ws.length ≤ 9223372036854775807) (hc : ∀ j, j < ws.length → w.cell? ⟨b, off + j, none⟩ = some (.int .i64 (ws.getD j 0))) :
    Calls Tryd.prog 6 #[.int .i64 a, .slice (some ⟨b, off, none⟩) ws.length cap] w fun e w' => e = .returned (.bool true) ∧ Below w.heap.size w w' := by
  have HL := Lib.hid (fun (W : World) (hS : Stp W) => live_any W hS)
  have b0 := Below.refl w.heap.size w
  have H1 := Lib.hid (split_any a b off cap ws w hne hm hc)
  have H2 := Lib.hid (fun (W : World) (hb : Below w.heap.size w W) => rsplit_any a b off cap ws W hne hm (fun j hj => cell_later hb (hc j hj)))
  clear hc
  by_cases hl : 100 < ws.length
  · go_enter Tryd.func6, Tryd.ntmps6
    go_wp2_with fail
    refine (HL.out _ hS).mono ?_
    rintro e w1 ⟨rfl, hb1⟩
    have b1 : Below w.heap.size w w1 := bl2 hb1 (by repeat (first | assumption | exact Below.refl _ _ | refine Below.setCell ?_ (by first | exact Nat.le_refl _ | (simp; done) | (simp; omega) | omega) _ | refine Below.alloc ?_ (by first | exact Nat.le_refl _ | (simp; done) | (simp; omega) | omega) _ | refine Below.drew ?_ | exact Nat.le_refl _))
    have z1 := b1.size
    repeat (rename Bk.Blk w _ _ _ => hq; (first | (have hq' := Bk.Blk.carry hq hb1 (by (repeat (first | with_reducible refine Bk.Blk.drew ?_ | with_reducible refine Bk.Blk.set_same ?_ | with_reducible refine Bk.Blk.set_ne ?_ (by omega) | with_reducible refine Bk.Blk.alloc ?_)); (with_reducible exact hq))) | (have hq' := Bk.Blk.later hb1 (Bk.Blk.set2 hq)) | skip); clear hq)
    try (have hn := Bk.Blk.later (g := (w).heap.size) hb1 (by first | with_reducible exact Bk.Blk.nw10 | with_reducible exact Bk.Blk.nw20 | with_reducible exact Bk.Blk.nw21 | with_reducible exact Bk.Blk.nw30 | with_reducible exact Bk.Blk.nw31 | with_reducible exact Bk.Blk.nw32 | with_reducible exact Bk.Blk.nw40 | with_reducible exact Bk.Blk.nw41 | with_reducible exact Bk.Blk.nw42 | with_reducible exact Bk.Blk.nw43))
    try (have hn := Bk.Blk.later (g := (w).heap.size + 1) hb1 (by first | with_reducible exact Bk.Blk.nw10 | with_reducible exact Bk.Blk.nw20 | with_reducible exact Bk.Blk.nw21 | with_reducible exact Bk.Blk.nw30 | with_reducible exact Bk.Blk.nw31 | with_reducible exact Bk.Blk.nw32 | with_reducible exact Bk.Blk.nw40 | with_reducible exact Bk.Blk.nw41 | with_reducible exact Bk.Blk.nw42 | with_reducible exact Bk.Blk.nw43))
    try (have hn := Bk.Blk.later (g := (w).heap.size + 2) hb1 (by first | with_reducible exact Bk.Blk.nw10 | with_reducible exact Bk.Blk.nw20 | with_reducible exact Bk.Blk.nw21 | with_reducible exact Bk.Blk.nw30 | with_reducible exact Bk.Blk.nw31 | with_reducible exact Bk.Blk.nw32 | with_reducible exact Bk.Blk.nw40 | with_reducible exact Bk.Blk.nw41 | with_reducible exact Bk.Blk.nw42 | with_reducible exact Bk.Blk.nw43))
    try (have hn := Bk.Blk.later (g := (w).heap.size + 3) hb1 (by first | with_reducible exact Bk.Blk.nw10 | with_reducible exact Bk.Blk.nw20 | with_reducible exact Bk.Blk.nw21 | with_reducible exact Bk.Blk.nw30 | with_reducible exact Bk.Blk.nw31 | with_reducible exact Bk.Blk.nw32 | with_reducible exact Bk.Blk.nw40 | with_reducible exact Bk.Blk.nw41 | with_reducible exact Bk.Blk.nw42 | with_reducible exact Bk.Blk.nw43))
    clear hb1
    repeat (rename World.cell? w _ = _ => hq; clear hq)
    repeat (rename World.frozen? w _ = _ => hq; clear hq)
    repeat (rename Bk.Blk w1 _ _ _ => hq; (first | (have _k0 := (hq).c0; have _m0 := (hq).f0) | skip); (first | (have _k1 := (hq).c1; have _m1 := (hq).f1) | skip); (first | (have _k2 := (hq).c2; have _m2 := (hq).f2) | skip); (first | (have _k3 := (hq).c3; have _m3 := (hq).f3) | skip); have _z := (hq).lt; have hk := Bk.Kept.mk hq; clear hq)
    repeat (rename Bk.Kept (Bk.Blk w1 _ _ _) => hq; have hq' := hq.out; clear hq)
    go_wp2_with fail
    go_ret
    exact ⟨rfl, (by repeat (first | assumption | exact Below.refl _ _ | refine Below.setCell ?_ (by first | exact Nat.le_refl _ | (simp; done) | (simp; omega) | omega) _ | refine Below.alloc ?_ (by first | exact Nat.le_refl _ | (simp; done) | (simp; omega) | omega) _ | refine Below.drew ?_ | exact Nat.le_refl _))⟩
  · have hl' : ws.length ≤ 100 := by omega
    clear hl
    go_enter Tryd.func6, Tryd.ntmps6
    go_wp2_with fail
    refine (H1.out).mono ?_
    rintro e w1 ⟨b1, ⟨hok, g1, _, rfl, hk1⟩ | ⟨hno, rfl⟩⟩
    · have hlen : (out a ws).length = ws.length := out_len a (okS_rng hok).2.2
      have HOK := Lib.hid hok
      clear hok
      go_wp2_with fail
      refine (H2.out _ b1).mono ?_
      rintro e w2 ⟨hb2, ⟨_, g2, c2, rfl, hk2⟩ | ⟨hno, _⟩⟩
      · replace hk1 := hk1.later hb2
        have b2 := bl2 hb2 b1
        clear hb2 b1
        generalize out a ws = o at *
        go_wp2_with fail
        go_loopg [9] o.length (PL w g1 w1.heap.size g2 c2 o)
        case atStart => exact ⟨0, by omega, rfl, hk1, hk2, b2⟩
        case round =>
          clear hk1 hk2 b2
          obtain ⟨j, hj, rfl, hk1, hk2, hbr⟩ := hrel
          by_cases hjl : j < ws.length
          · have e1 := (hk1.cell j).trans (ints_get (show j < o.length by omega))
            have e2 := hk2.cell (show j < o.length by omega)
            generalize o.getD j 0 = v at *
            go_wp2_with fail
            go_region
            all_goals go_wp2_with fail
            go_roundg (gk - 1)
            case measure => omega
            case rel => exact ⟨j + 1, by omega, by go_num, hk1.drew, hk2, hbr.drew⟩
          · go_wp2_with fail
            refine (HL.out _ (hS.of hbr)).mono ?_
            rintro e w' ⟨rfl, hb⟩
            go_wp2_with fail
            go_ret
            exact ⟨rfl, bl2 hb hbr⟩
      · exact absurd HOK.out hno
    · have HNO := Lib.hid hno
      clear hno
      go_wp2_with fail
      refine (H2.out _ b1).mono ?_
      rintro e w2 ⟨hb2, ⟨hok, _⟩ | ⟨_, rfl⟩⟩
      · exact absurd hok HNO.out
      · have b2 := bl2 hb2 b1
        clear hb2 b1
        go_wp2_with fail
        go_loopg [9] 0 (PL0 w2)
        case atStart => exact ⟨rfl, rfl⟩
        case round =>
          obtain ⟨rfl, rfl⟩ := hrel
          go_wp2_with fail
          refine (HL.out _ (hS.of b2)).mono ?_
          rintro e w' ⟨rfl, hb⟩
          go_wp2_with fail
          go_ret
          exact ⟨rfl, bl2 hb b2⟩
theorem parts_walk (a : Int) (p : Option Addr) (cap : Nat) (ws : List Int) (_ : (Lit.int .i64 a).wf = true) (w : World) (hi : Bk.IntsIn w p ws) (hS : Stp w) :
    Calls Tryd.prog 6 #[.int .i64 a, .slice p ws.length cap] w fun e w' => e = .returned (.bool true) ∧ Below w.heap.size w w' := by
  rcases Nat.eq_zero_or_pos ws.length with h | h
  · rw [h]; exact parts_none a p cap w hS
  · obtain ⟨b, off, rfl, hc⟩ := hi.2 h
    exact parts_row a b off cap ws w hS h hi.1 hc
end Go.Proofs.YtieklkpjlbpnbaaDoor.Sp
