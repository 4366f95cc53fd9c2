/-
  Split of the reference.
-/
import Derived.Test.YtieklkpjlbpnbaaDoorSp3
import Derived.Test.YtieklkpjlbpnbaaDoorSp4
namespace Go.Proofs.YtieklkpjlbpnbaaDoor.Sp
open Go.RowKit
open Go.Proofs.YtieklkpjlbpnbaaDoor
open Go.Proofs.YtieklkpjlbpnbaaDoor.Wm Go.Proofs.YtieklkpjlbpnbaaDoor.Wt Go.Proofs.YtieklkpjlbpnbaaDoor.Rd

/-- What Split of the reference leaves. -/
def RplPost (a : Int) (ws : List Int) (w : World) (e : Ending) (w' : World) : Prop := Below w.heap.size w w' ∧
  ((okS a ws ∧ ∃ g c, e = .returned (.tuple #[.slice (some ⟨g, 0, none⟩) ws.length c, .int .i64 0]) ∧ Row w' w.heap.size g c (out a ws)) ∨
   (¬ okS a ws ∧ e = .returned (.tuple #[.slice none 0 0, .int .i64 1])))
theorem rpl_no {a : Int} {ws : List Int} {w w' : World} (h : ¬ okS a ws) (hb : Below w.heap.size w w') : RplPost a ws w (.returned (.tuple #[.slice none 0 0, .int .i64 1])) w' := ⟨hb, .inr ⟨h, rfl⟩⟩
/-- Where the first loop stands. -/
def K1 (w : World) (A s : Int) (ws : List Int) (g : Nat) (s8 s10 s11 s12 : Value) (W : World) : Prop := ∃ k g1 g2 c1 c2 : Nat, k + g = ws.length ∧ s12 = .int .i64 k ∧ (∃ t, t = sm ((ws.take k).map fun x => A * x / s) ∧ 0 ≤ t ∧ t ≤ k * 1000000000000 ∧ s8 = .int .i64 (A - t)) ∧
  s10 = .slice (some ⟨g1, 0, none⟩) k c1 ∧ s11 = .slice (some ⟨g2, 0, none⟩) k c2 ∧ g1 ≠ g2 ∧
  Row W w.heap.size g1 c1 ((ws.take k).map fun x => A * x / s) ∧ Row W w.heap.size g2 c2 ((ws.take k).map fun x => A * x % s) ∧ Below w.heap.size w W
/-- Where the second loop stands. -/
def K2 (w : World) (A s : Int) (ws : List Int) (g1 g2 c1 c2 : Nat) (g : Nat) (s8 : Value) (W : World) : Prop := ∃ ps rs, GRel s (quos A s ws) (rems A s ws) ps rs g ∧ give g ps rs = parts A s ws ∧ g ≤ 1000000000000 ∧ s8 = .int .i64 g ∧
  Row W w.heap.size g1 c1 ps ∧ Row W w.heap.size g2 c2 rs ∧ Below w.heap.size w W
/-- Where the search stands. -/
def K3 (w : World) (ps rs : List Int) (g1 g2 c1 c2 : Nat) (g : Nat) (s18 s19 : Value) (W : World) : Prop := ∃ j k : Nat, j + g = rs.length ∧ s19 = .int .i64 j ∧ s18 = .int .i64 k ∧ k < rs.length ∧ amF rs g k = amax rs ∧ Row W w.heap.size g1 c1 ps ∧ Row W w.heap.size g2 c2 rs ∧ Below w.heap.size w W
/-- Where the last loop stands. -/
def K4 (w : World) (σ : Int) (ps : List Int) (g1 c1 : Nat) (g : Nat) (s20 : Value) (W : World) : Prop := ∃ j : Nat, j + g = ps.length ∧ s20 = .int .i64 j ∧ Row W w.heap.size g1 c1 (signed σ ps j) ∧ Below w.heap.size w W
set_option maxRecDepth 100000 in
set_option maxHeartbeats 4000000 in
theorem rsplit_any (a : Int) (b off cap : Nat) (ws : List Int) (w : World) (hne : 0 < ws.length) (hm : ws.length ≤ 9223372036854775807) (hc : ∀ j, j < ws.length → w.cell? ⟨b, off + j, none⟩ = some (.int .i64 (ws.getD j 0))) :
    Calls Tryd.prog 25 #[.int .i64 a, .slice (some ⟨b, off, none⟩) ws.length cap] w (RplPost a ws w) := by
  have b0 := Below.refl w.heap.size w
  have HC := Lib.hid hc
  have CT := Lib.hid (rtotal_any b off cap ws w hne hm hc)
  clear hc
  by_cases hok : okS a ws
  · have hg := hok.1
    obtain ⟨hr, hs⟩ := ok_rng hok
    have CG := Lib.hid (rgood_yes a w hg)
    have HOK := Lib.hid hok
    have HT := Lib.hid (show tV ws = sm ws ∧ tB ws = true from ⟨(t_yes hr).1, hok.2⟩)
    have hl : ws.length ≤ 64 := hr.1.2
    have HR := Lib.hid hr
    clear hr hok
    go_enter Tryd.func25, Tryd.ntmps25
    go_wp2_with fail
    refine (CT.out).mono ?_
    rintro e w' ⟨rfl, rfl⟩
    rw [HT.out.1, HT.out.2]
    generalize hsm : sm ws = s at *
    have HSM := Lib.hid hsm
    clear hsm
    go_wp2_with fail
    refine (CG.out).mono ?_
    rintro e w' ⟨rfl, rfl⟩
    have hb : b < w.heap.size := World.block_lt_of_cell? _ _ (HC.out 0 hne)
    unfold gd at hg
    go_upto_if 35 with fail
    go_cut [8] from 34 to 37 (fun s8 wx => s8 = .int .i64 (sg a * a) ∧ w = wx)
    case first =>
      by_cases hneg : a < 0
      · go_wp2_with fail
        go_meet
        case rel => exact ⟨by unfold sg; rw [if_pos hneg]; congr 1; omega, rfl⟩
      · go_wp2_with fail
        go_meet
        case rel => exact ⟨by unfold sg; rw [if_neg (by omega)]; congr 1; omega, rfl⟩
    case rest =>
    obtain ⟨rfl, rfl⟩ := hcut
    have hσ : 0 ≤ sg a * a ∧ sg a * a ≤ 1000000000000 := by
      unfold sg
      split <;> exact ⟨by omega, by omega⟩
    obtain ⟨hA0, hA1⟩ := hσ
    clear hg
    generalize hA : sg a * a = A at *
    have HA := Lib.hid hA
    clear hA
    go_wp2_with fail
    go_loopg [8, 10, 11, 12] ws.length (K1 w A s ws)
    case atStart =>
      have h2 : Row ((w.alloc (.cells #[] 3)).alloc (.cells #[] 3)) w.heap.size (w.heap.size + 1) 0 [] := by
        have := Row.new (W := w.alloc (.cells #[] 3)) (B := w.heap.size) (by simp)
        simpa using this
      exact ⟨0, w.heap.size, w.heap.size + 1, 0, 0, by omega, rfl, ⟨0, by simp [sm], by omega, by omega, by simp⟩, by simp, by simp, by omega, (Row.new (Nat.le_refl _)).alloc, h2, (by repeat (first | assumption | exact Below.refl _ _ | refine Below.setCell ?_ (by first | exact Nat.le_refl _ | (simp; done) | (simp; omega) | omega) _ | refine Below.alloc ?_ (by first | exact Nat.le_refl _ | (simp; done) | (simp; omega) | omega) _ | refine Below.drew ?_ | exact Nat.le_refl _))⟩
    case round =>
      obtain ⟨k, g1, g2, c1, c2, hkg, rfl, ⟨t, ht, ht0, ht1, rfl⟩, rfl, rfl, hne12, hq1, hq2, hbr⟩ := hrel
      have hz := hbr.size
      by_cases hlt : k < ws.length
      · have hcell : wr.cell? ⟨b, off + k, none⟩ = some (.int .i64 (ws.getD k 0)) := (World.cell?_of_block (a := ⟨b, off + k, none⟩) (hbr.block b hb)).trans (HC.out k hlt)
        obtain ⟨x0, x1, x2⟩ := wt_facts HR.out hlt
        have hs64 := sm_le HR.out
        have HS := Lib.hid (sum_succ (fun x => A * x / s) hlt)
        have HU1 := Lib.hid (map_succ (fun x => A * x / s) hlt)
        have HU2 := Lib.hid (map_succ (fun x => A * x % s) hlt)
        rw [HSM.out] at x2 hs64
        generalize ws.getD k 0 = x at *
        obtain ⟨p0, q0, q1, r0, r1⟩ := quo_facts hA0 hs x0 x2
        have hp1 : A * x ≤ 1000000000000 * 1000000000000 := Int.le_trans (Int.mul_le_mul_of_nonneg_left x1 hA0) (Int.mul_le_mul_of_nonneg_right hA1 (by omega))
        have CM := Lib.hid (fun W => rmul_any A x W (by unfold I64; omega) (by unfold I64; omega))
        have CD := Lib.hid (fun W => rdiv_any (A * x) s W (by unfold I128; omega) (by unfold I64; omega))
        have CI := Lib.hid (fun W => rint_any (A * x / s) W)
        have hde : dq (A * x) s = A * x / s ∧ dr (A * x) s = A * x % s ∧ de s = 0 := ⟨if_neg (by omega), if_neg (by omega), if_neg (by omega)⟩
        have hii : ifit (A * x / s) = A * x / s ∧ iin (A * x / s) = true := ⟨if_pos (by unfold I64; omega), decide_eq_true (by unfold I64; omega)⟩
        rw [hde.1, hde.2.1, hde.2.2] at CD
        rw [hii.1, hii.2] at CI
        clear hde hii hp1 p0
        have HT2 := Lib.hid ht
        clear ht
        obtain ⟨q, hq⟩ : ∃ q, q = A * x / s := ⟨_, rfl⟩
        obtain ⟨r, hr⟩ : ∃ r, r = A * x % s := ⟨_, rfl⟩
        rw [← hq] at CD CI HS HU1 q0 q1
        rw [← hr] at CD HU2 r0 r1
        obtain ⟨m, hm'⟩ : ∃ m, m = A * x := ⟨_, rfl⟩
        rw [← hm'] at CM CD
        clear hq hr hm'
        have hll : ((ws.take k).map fun x => A * x / s).length = k ∧ ((ws.take k).map fun x => A * x % s).length = k := by simp; omega
        obtain ⟨hl1, hl2⟩ := hll
        generalize ((ws.take k).map fun x => A * x / s) = m1 at hq1 HU1 hl1
        generalize ((ws.take k).map fun x => A * x % s) = m2 at hq2 HU2 hl2
        go_wp2_with fail
        refine (CM.out wr).mono ?_
        rintro e w1 ⟨rfl, h1⟩
        replace hq1 := hq1.later h1
        replace hq2 := hq2.later h1
        replace hbr := bl2 h1 hbr
        go_wp2_with fail
        refine (CD.out _).mono ?_
        rintro e w2 ⟨rfl, h2⟩
        replace hq1 := hq1.later h2
        replace hq2 := hq2.later h2
        replace hbr := bl2 h2 hbr
        go_wp2_with fail
        refine (CI.out _).mono ?_
        rintro e w3 ⟨rfl, h3⟩
        replace hq1 := hq1.alloc.later h3
        replace hq2 := hq2.alloc.later h3
        replace hbr : Below w.heap.size w w3 := bl2 h3 (hbr.alloc hbr.size _)
        have z3 := hbr.size
        clear hcell h1 h2 h3
        go_wp2_with (at_builtin; refine app_row rfl _ _ rfl q k rfl hl1 hq1 rfl (by omega) z3 ?_)
        intro g1' c1' w4 hq1' hgr1 hat1
        have k1 := hq1.lt
        have k2 := hq2.lt
        replace hq2 := hq2.alloc.grown hgr1 (by intro h; exact hne12 (Option.some.inj h).symm)
        have hbr4 : Below w.heap.size w w4 := (hbr.alloc hbr.size _).grown hgr1 (by simp; omega) (fun j hj => by cases hj; exact hq1.1)
        have z4 := hbr4.size
        have hne2 : g1' ≠ g2 := by rcases hat1 with h | h <;> omega
        clear hq1 hbr hgr1 hat1
        go_wp2_with (at_builtin; refine app_row rfl _ _ rfl r k rfl hl2 hq2 rfl (by omega) z4 ?_)
        intro g2' c2' w5 hq2' hgr2 hat2
        have k3 := hq1'.lt
        have hq1f := hq1'.alloc.grown hgr2 (by intro h; exact hne2 (Option.some.inj h))
        have hbr5 : Below w.heap.size w w5 := (hbr4.alloc hbr4.size _).grown hgr2 (by simp; omega) (fun j hj => by cases hj; exact hq2.1)
        have hne3 : g1' ≠ g2' := by rcases hat2 with h | h <;> omega
        clear hq2 hbr4 hgr2 hat2 hq1'
        rw [← HU1.out] at hq1f
        rw [← HU2.out] at hq2'
        go_wp2_with fail
        go_roundg (gk - 1)
        case measure => omega
        case rel => exact ⟨k + 1, g1', g2', c1', c2', by omega, by go_num, ⟨t + q, by rw [HS.out, HT2.out], by omega, by omega, by rw [Int.sub_sub]⟩, rfl, rfl, hne3, hq1f, hq2', hbr5⟩
      · have hkl : k = ws.length := by omega
        have hst := GRel.start (A := A) (ws := ws) (by rw [HSM.out]; exact hs)
        rw [HSM.out] at hst
        obtain ⟨hl0, hst⟩ := hst
        have hle : A - t = ((left A s ws).toNat : Int) := by
          rw [Int.toNat_of_nonneg hl0, ht, hkl, List.take_length]
          rfl
        rw [hle]
        rw [hkl, List.take_length] at hq1 hq2
        have hleA : (left A s ws).toNat ≤ 1000000000000 := by omega
        have HST := Lib.hid hst
        have HHA := Lib.hid hleA
        generalize hL : (left A s ws).toNat = L at *
        have HL := Lib.hid hL
        clear hL hst hleA hle ht hl0
        rw [hkl]
        clear hkl
        go_wp2_with fail
        clear hlt
        go_loopg [8] L (K2 w A s ws g1 g2 c1 c2)
        case atStart => exact ⟨quos A s ws, rems A s ws, HST.out, by rw [← HL.out]; rfl, HHA.out, rfl, hq1, hq2, hbr⟩
        case round =>
          clear hq1 hq2 hbr
          obtain ⟨ps, rs, hgr, hgv, hgb, rfl, hq1, hq2, hbr⟩ := hrel
          obtain ⟨kl1, kl2⟩ := quos_len A s ws
          have lp : ps.length = ws.length := hgr.l1.trans kl1
          have lr : rs.length = ws.length := hgr.l2.trans kl1
          by_cases hg0 : 0 < gk
          · obtain ⟨g, hg⟩ : ∃ g, gk = g + 1 := ⟨gk - 1, by omega⟩
            rw [hg] at hgr hgv
            have HG := Lib.hid hg
            have HST2 := Lib.hid (hgr.step hs)
            have HGR := Lib.hid hgr
            have HGV := Lib.hid hgv
            clear hgr hgv hg
            go_wp2_with fail
            obtain ⟨wo, rfl⟩ : ∃ wo : World, wo = wr := ⟨_, rfl⟩
            obtain ⟨go, rfl⟩ : ∃ g : Nat, g = gk := ⟨_, rfl⟩
            go_loopg [18, 19] (rs.length - 1) (K3 w ps rs g1 g2 c1 c2)
            case atStart => exact ⟨1, 0, by omega, rfl, rfl, by omega, (amax_one (by omega)).symm, hq1, hq2, hbr⟩
            case round =>
              clear hq1 hq2 hbr
              obtain ⟨j, k2, hj, rfl, rfl, hk2, ham, hq1, hq2, hbr⟩ := hrel
              have ck := hq2.cell hk2
              by_cases hjl : j < ws.length
              · have cj := hq2.cell (show j < rs.length by omega)
                have ham2 := amF_step (k := k2) hj (by omega)
                rw [ham] at ham2
                generalize rs.getD k2 0 = vk at *
                generalize rs.getD j 0 = vj at *
                by_cases hlt2 : vk < vj
                · rw [if_pos hlt2] at ham2
                  have HAM := Lib.hid ham2.symm
                  clear ham2 ham
                  go_wp2_with fail
                  go_region
                  all_goals go_wp2_with fail
                  go_roundg (gk - 1)
                  case measure => omega
                  case rel => exact ⟨j + 1, j, by omega, by go_num, rfl, by omega, HAM.out, hq1, hq2, hbr.drew⟩
                · rw [if_neg hlt2] at ham2
                  have HAM := Lib.hid ham2.symm
                  clear ham2 ham
                  go_wp2_with fail
                  go_region
                  all_goals go_wp2_with fail
                  go_roundg (gk - 1)
                  case measure => omega
                  case rel => exact ⟨j + 1, k2, by omega, by go_num, rfl, by omega, HAM.out, hq1, hq2, hbr.drew⟩
              · have hk0 : gk = 0 := by omega
                rw [hk0] at ham
                have hka : k2 = amax rs := ham
                rw [← hka] at HST2
                have HKA := Lib.hid hka
                clear hka ham
                obtain ⟨d0, d1⟩ := give_bd HGR.out (show k2 < (quos A s ws).length by omega)
                have e0 := (get_quos (A := A) (S := s) (show k2 < ws.length by omega)).1
                obtain ⟨x0, x1, x2⟩ := wt_facts HR.out (show k2 < ws.length by omega)
                rw [HSM.out] at x2
                obtain ⟨_, q0, q1, _, _⟩ := quo_facts hA0 hs x0 x2
                rw [← e0] at q0 q1
                have hk2p : k2 < ps.length := by omega
                have cp := hq1.cell hk2p
                have fp := hq1.free k2
                have fr := hq2.free k2
                have HGV2 := Lib.hid (show give g (ps.set k2 (ps.getD k2 0 + 1)) (rs.set k2 (-1)) = parts A s ws from by rw [← HGV.out]; show _ = give g _ _; rw [← HKA.out])
                generalize ps.getD k2 0 = p at *
                generalize (quos A s ws).getD k2 0 = q at *
                clear e0 hk0
                go_wp2_with fail
                go_roundg (go - 1)
                case measure => omega
                case rel =>
                  have hg := HG.out
                  have n1 : w.heap.size ≤ g1 := hq1.1
                  have n2 : w.heap.size ≤ g2 := hq2.1
                  refine ⟨ps.set k2 (p + 1), rs.set k2 (-1), ?_, ?_, by omega, ?_, ?_, ?_, (by repeat (first | assumption | exact Below.refl _ _ | refine Below.setCell ?_ (by first | exact Nat.le_refl _ | (simp; done) | (simp; omega) | omega) _ | refine Below.alloc ?_ (by first | exact Nat.le_refl _ | (simp; done) | (simp; omega) | omega) _ | refine Below.drew ?_ | exact Nat.le_refl _))⟩
                  · rw [show go - 1 = g by omega]; exact HST2.out.1
                  · rw [show go - 1 = g by omega]; exact HGV2.out
                  · rw [show ((go - 1 : Nat) : Int) = (go : Int) - 1 by omega]
                  · exact Row.set_ne (Row.set hq1 hk2p) hne12
                  · exact Row.set (Row.set_ne hq2 hne12.symm) hk2
          · have hg00 : gk = 0 := by omega
            rw [hg00] at hgv
            have hgv' : ps = parts A s ws := hgv
            have HPS := Lib.hid hgv'
            clear hgv hgv' hgr hq2
            have HG := Lib.hid hg00
            clear hg00
            by_cases hneg : a < 0
            · go_wp2_with fail
              go_loopg [20] ps.length (K4 w (-1) ps g1 c1)
              case atStart => exact ⟨0, by omega, rfl, by rw [signed_zero]; exact hq1, hbr⟩
              case round =>
                clear hq1 hbr
                obtain ⟨j, hj, rfl, hq1, hbr⟩ := hrel
                by_cases hjl : j < ws.length
                · have hjp : j < ps.length := by omega
                  have hsl := signed_len (-1) (Nat.le_of_lt hjp)
                  have cp := hq1.cell (show j < (signed (-1) ps j).length by omega)
                  rw [signed_get (-1) hjp] at cp
                  have fp := hq1.free j
                  have HSS := Lib.hid (signed_set (-1) hjp)
                  obtain ⟨x0, x1, x2⟩ := wt_facts HR.out hjl
                  have pb := parts_bd (A := A) (by rw [HSM.out]; exact hs) hA0 hjl x0 x2
                  rw [HSM.out, ← HPS.out] at pb
                  generalize ps.getD j 0 = p at *
                  obtain ⟨p0, p1⟩ := pb
                  have HQ := Lib.hid (show p * -1 = -p by omega)
                  have HLT := Lib.hid (show j < (signed (-1) ps j).length by omega)
                  go_wp2_with fail
                  go_roundg (gk - 1)
                  case measure => omega
                  case rel =>
                    have n1 : w.heap.size ≤ g1 := hq1.1
                    exact ⟨j + 1, by omega, by go_num, by rw [← HSS.out, HQ.out]; exact Row.set hq1 HLT.out, (by repeat (first | assumption | exact Below.refl _ _ | refine Below.setCell ?_ (by first | exact Nat.le_refl _ | (simp; done) | (simp; omega) | omega) _ | refine Below.alloc ?_ (by first | exact Nat.le_refl _ | (simp; done) | (simp; omega) | omega) _ | refine Below.drew ?_ | exact Nat.le_refl _))⟩
                · have hjp : j = ps.length := by omega
                  rw [hjp, signed_all] at hq1
                  have hsg : sg a = -1 := if_pos hneg
                  have HSG := Lib.hid hsg
                  clear hsg hjp
                  go_wp2_with fail
                  go_ret2
                  refine ⟨hbr, .inl ⟨HOK.out, g1, c1, rfl, ?_⟩⟩
                  rw [HPS.out] at hq1
                  show Row wr w.heap.size g1 c1 ((parts (sg a * a) (sm ws) ws).map (· * sg a))
                  rw [HA.out, HSG.out, HSM.out]
                  exact hq1
            · go_wp2_with fail
              go_loopg [20] 0 (fun _ s20 wy => s20 = .int .i64 0 ∧ wr = wy)
              case atStart => exact ⟨rfl, rfl⟩
              case round =>
                obtain ⟨rfl, rfl⟩ := hrel
                have hsg : sg a = 1 := if_neg (by omega)
                have HSG := Lib.hid hsg
                clear hsg
                go_wp2_with fail
                go_ret2
                refine ⟨hbr, .inl ⟨HOK.out, g1, c1, rfl, ?_⟩⟩
                rw [HPS.out] at hq1
                show Row _ w.heap.size g1 c1 ((parts (sg a * a) (sm ws) ws).map (· * sg a))
                rw [HA.out, HSG.out, HSM.out]
                simpa using hq1
  · have HNO := Lib.hid hok
    by_cases hg : gd a
    · have CG := Lib.hid (rgood_yes a w hg)
      have ht : tB ws = false := by
        cases hv : tB ws
        · rfl
        · exact absurd ⟨hg, hv⟩ hok
      have HT := Lib.hid ht
      clear hg ht hok
      go_enter Tryd.func25, Tryd.ntmps25
      go_wp2_with fail
      refine (CT.out).mono ?_
      rintro e w' ⟨rfl, rfl⟩
      rw [HT.out]
      go_wp2_with fail
      refine (CG.out).mono ?_
      rintro e w' ⟨rfl, rfl⟩
      go_wp2_with fail
      go_ret2
      exact rpl_no HNO.out (Below.refl _ _)
    · have CG := Lib.hid (rgood_no a w hg)
      clear hg hok
      go_enter Tryd.func25, Tryd.ntmps25
      go_wp2_with fail
      refine (CT.out).mono ?_
      rintro e w' ⟨rfl, rfl⟩
      generalize tV ws = v at *
      generalize tB ws = v2 at *
      go_wp2_with fail
      refine (CG.out).mono ?_
      rintro e w' ⟨rfl, rfl⟩
      go_wp2_with fail
      go_ret2
      exact rpl_no HNO.out (Below.refl _ _)
end Go.Proofs.YtieklkpjlbpnbaaDoor.Sp
