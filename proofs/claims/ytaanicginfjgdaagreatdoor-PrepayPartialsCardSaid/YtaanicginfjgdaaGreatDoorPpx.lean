/-
 Prepayment, plain: the chapter's examples.
-/
import Derived.Test.YtaanicginfjgdaaGreatDoorPna
import Derived.Test.YtaanicginfjgdaaGreatDoorSm5
namespace Go.Proofs.YtaanicginfjgdaaGreatDoor.Pp
open Go Go.RowKit
open Go.Proofs.YtaanicginfjgdaaGreatDoor
open Go.Proofs.YtaanicginfjgdaaGreatDoor.Ln (Tm Ch Du Lo Pa sum prs its P I chk Ok ok_iff powed)
open Go.Proofs.YtaanicginfjgdaaGreatDoor.Rd (gd pcV pcE)
open Go.Proofs.YtaanicginfjgdaaGreatDoor.Kl (Cl skE euB)
open Go.Proofs.YtaanicginfjgdaaGreatDoor.An (intr Least enough enough_mono)
set_option maxRecDepth 100000
set_option linter.unusedVariables false

theorem fe_eq {l : Lo} (h : Ok l) {a : Int} (h0 : 0 ≤ a) (h1 : a ≤ 1000000000000) : feV l a = Rd.rd (a * l.tm.fe) 1000000 6 := by
 have hf := h.rf
 unfold Ln.rateB at hf
 have hf := of_decide_eq_true hf
 have hgd : gd a ∧ 0 ≤ l.tm.fe ∧ l.tm.fe ≤ 1000000 := ⟨⟨by omega, h1⟩, hf⟩
 have hp0 := Int.mul_nonneg h0 hf.1
 have hp1 : a * l.tm.fe ≤ a * 1000000 := Int.mul_le_mul_of_nonneg_left hf.2 h0
 have hk : Rd.rok 1000000 6 := by decide
 have hq := Int.ediv_nonneg hp0 (show (0 : Int) ≤ 1000000 by decide)
 have hlo := (An.rd_lo (n := 1000000) (m := 6) hp0 (by decide)).1
 have hhi := An.rd_mono (n := 1000000) (m := 6) hp0 hp1 (by decide)
 have hmu : Rd.rd (a * 1000000) 1000000 6 = a := ((An.rd_lo (n := 1000000) (m := 6) (Int.mul_nonneg h0 (by decide)) (by decide)).2.2 (Int.mul_emod_left ..)).trans (Int.mul_ediv_cancel _ (by decide))
 generalize hr : Rd.rd (a * l.tm.fe) 1000000 6 = r at *
 rw [hmu] at hhi
 have hin : Wm.I64 r := by unfold Wm.I64; omega
 have hng : ¬ a < 0 := by omega
 unfold feV pcV
 rw [if_neg hng, if_pos hgd, (Rd.rd_yes hk).1, hr]
 exact if_pos hin
def ccB : ByteArray := { data := #[99] }
def smc : Cl := ⟨ccB, [], []⟩
def smT : Tm := ⟨1, 1000, 120000, 0, 1, 3, 0, 6, 0, 10000, ccB, euB⟩
def smL : Lo := ⟨1, 1000, 1, 0, 0, 0, 0, 0, 0, 0, 0, smT, [⟨1, 31, 330, 10⟩, ⟨2, 60, 333, 7⟩, ⟨3, 91, 337, 3⟩], []⟩
theorem sm_chk : chk smL = 0 := by decide +kernel
theorem sm_ok : Ok smL := ok_iff.1 sm_chk
theorem sm_fe : feV smL 510 = 5 ∧ feV smL 1000 = 10 ∧ feV smL 670 = 7 ∧ feE smL 510 = 0 := ⟨(fe_eq sm_ok (by decide) (by decide)).trans (by decide +kernel), (fe_eq sm_ok (by decide) (by decide)).trans (by decide +kernel), (fe_eq sm_ok (by decide) (by decide)).trans (by decide +kernel), (fe_ok sm_ok (by decide) (by decide)).1⟩
theorem sm_lat : lat smL 10 = 1000 ∧ lat smL 31 = 670 := by decide +kernel
theorem sm_itn : itn smL 10 = 10 ∧ itn smL 31 = 17 := by decide +kernel
theorem sm_P : P smL.ds = 1000 := by decide +kernel
theorem sm_qtN : qtN smL 10 = 1020 ∧ qtN smL 31 = 1024 := by
 unfold qtN
 rw [sm_lat.1, sm_lat.2, sm_itn.1, sm_itn.2, sm_fe.2.1, sm_fe.2.2.1, sm_P]
 decide
theorem sm_qt : (qtE smL 10 = 0 ∧ qtV smL 10 = 1020) ∧ (qtE smL 31 = 0 ∧ qtV smL 31 = 1024) := by
 have h10 : qtE smL 10 = 0 := by
  unfold qtE
  rw [sm_lat.1, sm_qtN.1, if_neg (by rw [sm_chk]; decide), if_neg (by decide), if_neg (by decide), if_neg (by decide)]
 have h31 : qtE smL 31 = 0 := by
  unfold qtE
  rw [sm_lat.2, sm_qtN.2, if_neg (by rw [sm_chk]; decide), if_neg (by decide), if_neg (by decide), if_neg (by decide)]
 exact ⟨⟨h10, (if_pos h10).trans sm_qtN.1⟩, ⟨h31, (if_pos h31).trans sm_qtN.2⟩⟩
theorem sm_fu : fuE smL 10 = 0 := by
 unfold fuE
 rw [sm_qt.1.1, if_neg (by decide), if_neg (by decide +kernel)]
theorem sm_fuQ : fuQ smL 10 = [⟨1, 10⟩, ⟨3, 10⟩, ⟨4, 1000⟩] := by
 unfold fuQ
 rw [sm_lat.1, sm_itn.1, sm_fe.2.1, sm_P]
 kernel_rfl
theorem sm_paid : paid smL 510 = 505 := by unfold paid; rw [sm_fe.1]; rfl
theorem sm_rst : rst smL 510 = 495 := by unfold rst; rw [sm_paid, sm_P]; rfl
theorem sm_sk : skE smT smc = 0 := by decide +kernel
theorem least169 : Least (120000 * 1) 6 3 495 0 169 := by
 refine ⟨⟨by decide, by decide⟩, by decide +kernel, fun y hy0 hy1 => ?_⟩
 cases he : enough (120000 * 1) 6 3 495 0 y with
 | false => rfl
 | true =>
  have := enough_mono (c := 120000 * 1) (pay := 168) ⟨by decide, by decide⟩ (by decide) (by decide) hy0 (by omega) he
  rw [show enough (120000 * 1) 6 3 495 0 168 = false by decide +kernel] at this
  cases this
theorem sm_an : anE 495 120000 1 6 (3 : Nat) 0 = 0 ∧ anV 495 120000 1 6 (3 : Nat) 0 = 169 := by
 have hx : An.pOk 495 120000 1 6 (3 : Nat) 0 ∧ enough (120000 * 1) 6 ((3 : Nat) : Int).toNat 495 0 1000000000000 = true ∧ ∃ x, Least (120000 * 1) 6 ((3 : Nat) : Int).toNat 495 0 x := ⟨by decide, by decide +kernel, 169, least169⟩
 refine ⟨?_, ?_⟩
 ·unfold anE
  rw [if_pos hx.1, if_pos hx.2.1]
 ·unfold anV
  rw [dif_pos hx]
  exact (Classical.choose_spec hx.2.2).unique least169
theorem sm_at : atN smL 10 = 0 := by decide +kernel
theorem sm_snd : snd smL 10 = smL.ds ∧ fst smL 10 = [] := by unfold snd fst; rw [sm_at]; exact ⟨rfl, rfl⟩
theorem sm_one : one2 smL 510 10 = ⟨1, 10, 505, 0⟩ := by
 unfold one2
 rw [sm_at, sm_snd.2, sm_paid]
 kernel_rfl
theorem sm_lv (keep : Int) : (keep = 1 → lvE smL keep 495 3 = 0 ∧ lvV smL 10 keep 495 3 = 169) ∧ (keep = 2 → lvE smL keep 495 3 = 0 ∧ lvV smL 10 keep 495 3 = 340) := by
 refine ⟨?_, ?_⟩
 ·rintro rfl
  refine ⟨?_, ?_⟩
  ·unfold lvE
   rw [if_neg (by decide), if_pos (.inl rfl)]
   exact sm_an.1
  ·unfold lvV
   rw [if_neg (by decide), if_pos (.inl rfl)]
   exact sm_an.2
 ·rintro rfl
  refine ⟨rfl, ?_⟩
  unfold lvV
  rw [if_pos rfl]
  decide +kernel
def sm1 : List Du := [⟨1, 10, 505, 0⟩, ⟨2, 31, 164, 5⟩, ⟨3, 60, 166, 3⟩, ⟨4, 91, 165, 2⟩]
def sm2 : List Du := [⟨1, 10, 505, 0⟩, ⟨2, 31, 335, 5⟩, ⟨3, 60, 160, 2⟩]
theorem sm_paD1 : paD smL 510 10 1 = sm1 := by
 unfold paD bld
 rw [sm_rst, sm_snd.1, sm_snd.2, sm_one, sm_at, show lvV smL 10 1 495 smL.ds.length = 169 from ((sm_lv 1).1 rfl).2]
 kernel_rfl
theorem sm_paD2 : paD smL 510 10 2 = sm2 := by
 unfold paD bld
 rw [sm_rst, sm_snd.1, sm_snd.2, sm_one, sm_at, show lvV smL 10 2 495 smL.ds.length = 340 from ((sm_lv 2).2 rfl).2]
 kernel_rfl
theorem sm_al {keep : Int} (h : keep = 1 ∨ keep = 2) : alE smL 510 10 keep smc = 0 := by
 unfold alE
 rw [sm_paid, sm_P, if_neg (by decide +kernel), if_neg (by rcases h with rfl | rfl <;> decide), if_neg (fun e => e.2 rfl), show skE smL.tm smc = 0 from sm_sk, if_neg (by decide), if_neg (by decide)]
theorem sm_pa {keep : Int} (h : keep = 1 ∨ keep = 2) : paE smL 510 10 keep smc = 0 := by
 have hl : (paD smL 510 10 keep).length ≤ 4 := by
  rcases h with rfl | rfl
  ·rw [sm_paD1]; decide
  ·rw [sm_paD2]; decide
 have hv : lvE smL keep 495 3 = 0 := by
  rcases h with rfl | rfl
  ·exact ((sm_lv 1).1 rfl).1
  ·exact ((sm_lv 2).2 rfl).1
 unfold paE
 rw [sm_al h, sm_rst, sm_one, sm_snd.1, if_neg (by rw [sm_chk]; decide), if_neg (by decide), if_neg (by decide), show lvE smL keep 495 smL.ds.length = 0 from hv, if_neg (by decide), if_neg (by omega)]
theorem sm_paL1 : paO smL 510 10 1 = ⟨1, 1000, 1, 505, 0, 0, 0, 0, 0, 0, 0, smT, sm1, []⟩ := by
 unfold paO
 rw [sm_paid, sm_paD1]
 rfl
theorem sm_paL2 : paO smL 510 10 2 = ⟨1, 1000, 1, 505, 0, 0, 0, 0, 0, 0, 0, smT, sm2, []⟩ := by
 unfold paO
 rw [sm_paid, sm_paD2]
 rfl
end Go.Proofs.YtaanicginfjgdaaGreatDoor.Pp
