/-
  The contracts of the reference's Rest and Payment, and of annuity's Payment.
-/
import Derived.Test.YtmdjikmpgckpbaaDoorAn2
namespace Go.Proofs.YtmdjikmpgckpbaaDoor.An
open Go.RowKit
open Go.Proofs.YtmdjikmpgckpbaaDoor
open Go.Proofs.YtmdjikmpgckpbaaDoor.Wm Go.Proofs.YtmdjikmpgckpbaaDoor.Wt Go.Proofs.YtmdjikmpgckpbaaDoor.Rd

/-- The reference's loop for Rest. -/
def RRLoop (w : World) (p ppm ev m pay : Int) (cnt : Nat) (g : Nat) (v0 v14 : Value) (wr : World) : Prop := RLoop p ppm ev m pay cnt g v0 v14 ∧ w = wr

set_option maxHeartbeats 4000000 in
theorem rrest_ok (p ppm ev m pay : Int) (cnt : Nat) (w : World) (h : Ok p ppm ev m) (hk : cnt ≤ 120) (hp0 : 0 ≤ pay) (hp1 : pay ≤ 1000000000000) :
    Calls Tryd.prog 70 #[.int .i64 p, .int .i64 ppm, .int .i64 ev, .int .i64 m, .int .i64 cnt, .int .i64 pay] w fun e w' => ROut p ppm ev m cnt pay e ∧ w = w' := by
  have H := Lib.hid h
  have HG := Lib.hid (fun W => rgd_yes p ppm ev m W h)
  have HY := Lib.hid (show rOk p ppm ev m cnt pay from ⟨h, ⟨by omega, by omega⟩, ⟨hp0, hp1⟩⟩)
  have hcn : ((cnt : Nat) : Int).toNat = cnt := by omega
  have HCN := Lib.hid hcn
  obtain ⟨⟨p0, p1⟩, h2, h3, h4⟩ := h
  clear h2 h3 h4 hcn
  go_enter Tryd.func70, Tryd.ntmps70
  go_wp2_with fail
  refine (HG.out _).mono ?_
  rintro e w' ⟨rfl, rfl⟩
  go_wp2_with fail
  go_loopg [0, 14] cnt (RRLoop w p ppm ev m pay cnt)
  case atStart => exact ⟨⟨0, p, by simp, rfl, rfl, p0, p1, rfl⟩, rfl⟩
  case round =>
    obtain ⟨⟨k, q, hkg, rfl, rfl, q0, q1, hr⟩, rfl⟩ := hrel
    have HR := Lib.hid hr
    have HK := Lib.hid hkg
    clear hr hkg
    by_cases hlt : k < cnt
    · obtain ⟨g, hg⟩ : ∃ g, gk = g + 1 := ⟨gk - 1, by have := HK.out; omega⟩
      have hok : Ok q ppm ev m := ⟨⟨q0, q1⟩, H.out.2⟩
      have hib := intr_bd (m := m) hok.rate q0 q1
      have HI := Lib.hid (fun (W : World) => rint_any2 q ppm ev m W hok)
      have hca := restA_cases (hg ▸ HR.out)
      have HG := Lib.hid hg
      clear hg hok
      generalize intr (ppm * ev) m q = i at *
      obtain ⟨i0, i1⟩ := hib
      have HC := Lib.hid hca
      clear hca HR
      by_cases hx : q + i - pay < 0
      · have hx2 : q + i < pay := by omega
        have hx3 : q + i - pay ≤ 1000000000000 := by omega
        have hx4 := Lib.hid (show q + i - pay ≤ 0 by omega)
        go_wp2_with fail
        refine (HI.out _).mono ?_
        rintro e w' ⟨rfl, rfl⟩
        go_wp2_with fail
        go_roundg g
        case measure => have := HG.out; omega
        case rel => exact ⟨⟨k + 1, 0, by have := HG.out; have := HK.out; omega, rfl, by go_num, by omega, by omega, HC.out.1 hx4.out⟩, rfl⟩
      · have hx1 : 0 ≤ q + i - pay := by omega
        have hx2 : pay ≤ q + i := by omega
        have HZ := Lib.hid (show restA (ppm * ev) m pay cnt p = (if 1000000000000 < q + i - pay then none else restA (ppm * ev) m pay g (q + i - pay)) by
          by_cases hy : q + i - pay ≤ 1000000000000
          · rw [if_neg (by omega)]
            by_cases hz : 0 < q + i - pay
            · exact HC.out.2.1 hz hy
            · rw [HC.out.1 (by omega), show q + i - pay = 0 by omega]
          · rw [if_pos (by omega)]; exact HC.out.2.2 (by omega))
        clear hx
        by_cases hy : q + i - pay ≤ 1000000000000
        · go_wp2_with fail
          refine (HI.out _).mono ?_
          rintro e w' ⟨rfl, rfl⟩
          go_wp2_with fail
          go_roundg g
          case measure => have := HG.out; omega
          case rel => exact ⟨⟨k + 1, q + i - pay, by have := HG.out; have := HK.out; omega, rfl, by go_num, by omega, by omega, by rw [HZ.out, if_neg (by omega)]⟩, rfl⟩
        · have hy2 : 1000000000000 < q + i - pay := by omega
          have HN := Lib.hid (show restA (ppm * ev) m pay cnt p = none by rw [HZ.out, if_pos hy2])
          clear hy
          go_wp2_with fail
          refine (HI.out _).mono ?_
          rintro e w' ⟨rfl, rfl⟩
          go_wp2_with fail
          go_ret2
          exact ⟨rout_none HY.out (by rw [HCN.out]; exact HN.out), rfl⟩
    · have hg0 : gk = 0 := by have := HK.out; omega
      have HE := Lib.hid (show restA (ppm * ev) m pay cnt p = some q by rw [HR.out, hg0]; rfl)
      clear hg0 HR
      go_wp2_with fail
      go_ret2
      exact ⟨rout_some HY.out (by rw [HCN.out]; exact HE.out), rfl⟩

set_option maxHeartbeats 4000000 in
theorem rrest_any (p ppm ev m cnt pay : Int) (w : World) : Calls Tryd.prog 70 #[.int .i64 p, .int .i64 ppm, .int .i64 ev, .int .i64 m, .int .i64 cnt, .int .i64 pay] w fun e w' => ROut p ppm ev m cnt pay e ∧ w = w' := by
  by_cases hy : rOk p ppm ev m cnt pay
  · obtain ⟨h, ⟨g1, g2⟩, ⟨g3, g4⟩⟩ := hy
    have := rrest_ok p ppm ev m pay cnt.toNat w h (by omega) g3 g4
    rw [show ((cnt.toNat : Nat) : Int) = cnt by omega] at this
    exact this
  · have HN := Lib.hid hy
    unfold rOk at hy
    by_cases ho : Ok p ppm ev m
    · have HA := Lib.hid (fun W => rgd_yes p ppm ev m W ho)
      by_cases h1 : cnt < 0
      · clear hy ho
        go_enter Tryd.func70, Tryd.ntmps70
        go_wp2_with fail
        refine (HA.out _).mono ?_
        rintro e w' ⟨rfl, rfl⟩
        go_wp2_with fail
        go_ret2
        exact ⟨rout_no HN.out, rfl⟩
      · have g1 : 0 ≤ cnt := by omega
        clear h1
        by_cases h2 : 120 < cnt
        · clear hy ho
          go_enter Tryd.func70, Tryd.ntmps70
          go_wp2_with fail
          refine (HA.out _).mono ?_
          rintro e w' ⟨rfl, rfl⟩
          go_wp2_with fail
          go_ret2
          exact ⟨rout_no HN.out, rfl⟩
        · have g2 : cnt ≤ 120 := by omega
          clear h2
          by_cases h3 : pay < 0
          · clear hy ho
            go_enter Tryd.func70, Tryd.ntmps70
            go_wp2_with fail
            refine (HA.out _).mono ?_
            rintro e w' ⟨rfl, rfl⟩
            go_wp2_with fail
            go_ret2
            exact ⟨rout_no HN.out, rfl⟩
          · have g3 : 0 ≤ pay := by omega
            have g4 : 1000000000000 < pay := by
              rcases Classical.em (1000000000000 < pay) with h | h
              · exact h
              · exact absurd ⟨ho, ⟨g1, g2⟩, ⟨g3, by omega⟩⟩ hy
            clear h3 hy ho
            go_enter Tryd.func70, Tryd.ntmps70
            go_wp2_with fail
            refine (HA.out _).mono ?_
            rintro e w' ⟨rfl, rfl⟩
            go_wp2_with fail
            go_ret2
            exact ⟨rout_no HN.out, rfl⟩
    · have HA := Lib.hid (fun W => rgd_no p ppm ev m W ho)
      clear hy ho
      go_enter Tryd.func70, Tryd.ntmps70
      go_wp2_with fail
      refine (HA.out _).mono ?_
      rintro e w' ⟨rfl, rfl⟩
      go_wp2_with fail
      go_ret2
      exact ⟨rout_no HN.out, rfl⟩
end Go.Proofs.YtmdjikmpgckpbaaDoor.An
