/-
  Restructuring, plain: the chapter's example.
  The chapter's example holds: its loan, its calls, lives.
-/
import Derived.Test.YtfiplppdmedhkaaGreatDoorRsm
import Derived.Test.YtfiplppdmedhkaaGreatDoorSm5
import Derived.Test.YtfiplppdmedhkaaGreatDoorRs3
import Derived.Test.YtfiplppdmedhkaaGreatDoorRs5
import Derived.Test.YtfiplppdmedhkaaGreatDoorSk6
import Derived.Test.YtfiplppdmedhkaaGreatDoorTkb
namespace Go.Proofs.YtfiplppdmedhkaaGreatDoor.Ln
open Go Go.RowKit
open Go.Proofs.YtfiplppdmedhkaaGreatDoor
open Go.Proofs.YtfiplppdmedhkaaGreatDoor.Cal
open Go.Proofs.YtfiplppdmedhkaaGreatDoor.Kl (Cl skE sk_ok blE blV blV_ok bl_facts bl_len bl_each bl_ord bl_P bl_I cl0 hmB euB dE dV oE oV adj adj0 daysE duAt lf prt addM)
open Go.Proofs.YtfiplppdmedhkaaGreatDoor.An (intr)
set_option maxRecDepth 100000

/-- The example's terms, loan, terms behind, loan behind. -/
def smT : Tm := ⟨2, 1000, 0, 30, 1, 3, 0, 1, 0, 0, hmB, euB⟩
def smL : Lo := ⟨1, 1000, 1, 300, 0, 0, 5, 30, 0, 0, 0, smT, [⟨1, 59, 334, 0⟩, ⟨2, 90, 333, 0⟩, ⟨3, 120, 333, 0⟩], []⟩
def smT2 : Tm := ⟨2, 705, 0, 100, 1, 1, 0, 1, 0, 0, hmB, euB⟩
def smN : Lo := ⟨1, 1000, 1, 0, 0, 0, 0, 100, 0, 0, 0, smT2, [⟨1, 130, 705, 0⟩], [⟨100, 705, smT⟩]⟩
theorem sm_cap : capE smL 100 = 0 ∧ capN smL 100 = 705 := by decide +kernel
theorem sm_sk : skE smT cl0 = 0 ∧ skE smT2 cl0 = 0 := by decide +kernel
theorem civ100 : cy 100 = 2000 ∧ cm 100 = 4 ∧ ck 100 = 10 := civ_eq ⟨by decide, by decide, by decide, by decide, by decide, by decide, by decide⟩
theorem add100 : addM 100 1 10 = some 130 := by
  have c := civ100
  unfold addM
  rw [c.1, c.2.1, if_pos (by decide)]
  decide
theorem sm_day : dE smT2 cl0 1 = 0 ∧ dV smT2 cl0 1 = 130 := by
  have e : addM smT2.stt (1 * smT2.ev) (ck smT2.stt) = some 130 := by
    show addM 100 (1 * 1) (ck 100) = some 130
    rw [civ100.2.2]
    exact add100
  unfold dE dV
  rw [e]
  show oE (adj cl0 130) 11 = 0 ∧ oV (adj cl0 130) = 130
  rw [adj0 (by decide) (by decide)]
  exact ⟨rfl, rfl⟩
theorem sm_days : daysE smT2 cl0 = 0 := by
  unfold daysE
  rw [if_pos sm_sk.2]
  show (if (0 : Int) = 0 then dE smT2 cl0 1 else 0) = 0
  rw [if_pos rfl, sm_day.1]
theorem sm_pay : Kl.payE smT2 = 0 ∧ Kl.payV smT2 = 0 := ⟨rfl, rfl⟩
theorem sm_bl : blE smT2 cl0 = 0 := by unfold blE; rw [if_pos sm_days, sm_pay.1]
theorem sm_blV : blV smT2 cl0 = [⟨1, 130, 705, 0⟩] := by
  rw [blV_ok sm_bl]
  show [duAt smT2 cl0 0] = _
  unfold duAt
  rw [sm_pay.2, show dV smT2 cl0 (((0 : Nat) : Int) + 1) = 130 from sm_day.2]
  kernel_rfl
theorem sm_chE : chE smL smT2 100 cl0 = 0 := by
  unfold chE
  rw [sm_sk.2, sm_cap.1, if_neg (by decide), if_neg (by decide), if_neg (by rw [show badB smL smT2 100 = false by decide +kernel]; decide), if_neg (by decide), sm_bl]
theorem sm_chL : chL smL smT2 100 cl0 = smN := by
  unfold chL
  rw [if_pos sm_chE]
  unfold chO
  rw [sm_blV, sm_cap.2]
  rfl
theorem sm_chE1 : chE smL smT 100 cl0 = 1 := by
  unfold chE
  rw [sm_sk.1, sm_cap.1, if_neg (by decide), if_neg (by decide), if_pos (by decide +kernel)]
theorem sm_chL1 : chL smL smT 100 cl0 = zLo := by
  unfold chL
  rw [sm_chE1]
  exact if_neg (by decide)
theorem sm_chgs : chgsB smN.cs = true := by decide +kernel
theorem sm_tm : tmOn smT2 smN.cs 99 = smT ∧ tmOn smT2 smN.cs 100 = smT2 := ⟨by kernel_rfl, by kernel_rfl⟩
end Go.Proofs.YtfiplppdmedhkaaGreatDoor.Ln

namespace Go.Proofs.YtfiplppdmedhkaaGreatDoor.Ln
open Go Go.RowKit
open Go.Proofs.YtfiplppdmedhkaaGreatDoor
open Go.Proofs.YtfiplppdmedhkaaGreatDoor.Kl (Cl CalIn skE skchk_any sk_ok blE blV bl_facts bl_len BlOut ls_inj cl0 hmB euB row_of_cells)
set_option linter.unusedSimpArgs false
set_option linter.unusedVariables false
set_option maxRecDepth 100000

def smDs : List Du := [⟨1, 59, 334, 0⟩, ⟨2, 90, 333, 0⟩, ⟨3, 120, 333, 0⟩]
/-- The example's loan, as a call returns it. -/
def SmP (v : Value) (W : World) : Prop := ∃ g, v = .agg #[.int .i64 1, .int .i64 1000, .int .i64 1, .int .i64 300, .int .i64 0, .int .i64 0, .int .i64 5, .int .i64 30, .int .i64 0, .int .i64 0, .int .i64 0, .int .i64 2, .int .i64 1000, .int .i64 0, .int .i64 30, .int .i64 1, .int .i64 3, .int .i64 0, .int .i64 1, .int .i64 0, .int .i64 0, .string { data := #[104, 111, 109, 101] }, .string { data := #[69, 85, 82] }, .slice (some ⟨g, 0, none⟩) 3 3, .slice none 0 0] ∧ DuesIn W (some ⟨g, 0, none⟩) smDs
set_option maxHeartbeats 8000000 in
theorem sample_any (w : World) : Calls Tryz.prog 48 #[] w fun e w' => ∃ v, e = .returned v ∧ SmP v w' ∧ Below w.heap.size w w' := by
  have cw1 : Below w.heap.size w (((w.alloc (.cells #[.int .i64 0, .int .i64 0, .int .i64 0, .int .i64 0, .int .i64 0, .int .i64 0, .int .i64 0, .int .i64 0, .int .i64 0, .int .i64 0, .int .i64 0, .int .i64 0, .int .i64 0, .int .i64 0, .int .i64 0, .int .i64 0, .int .i64 0, .int .i64 0, .int .i64 0, .int .i64 0, .int .i64 0, .string { data := #[] }, .string { data := #[] }, .slice none 0 0, .slice none 0 0] 31)).alloc (.cells #[.int .i64 0, .int .i64 0, .int .i64 0, .int .i64 0, .int .i64 0, .int .i64 0, .int .i64 0, .int .i64 0, .int .i64 0, .int .i64 0, .string { data := #[] }, .string { data := #[] }] 23)).setRow (w.heap.size + 1) #[.int .i64 2, .int .i64 1000, .int .i64 0, .int .i64 30, .int .i64 1, .int .i64 3, .int .i64 0, .int .i64 1, .int .i64 0, .int .i64 0, .string { data := #[104, 111, 109, 101] }, .string { data := #[69, 85, 82] }]) := Below_setRow (((Below.refl _ _).alloc (Nat.le_refl _) _).alloc (by simp) _) (by omega) _
  have kz : Bk.Blk (((w.alloc (.cells #[.int .i64 0, .int .i64 0, .int .i64 0, .int .i64 0, .int .i64 0, .int .i64 0, .int .i64 0, .int .i64 0, .int .i64 0, .int .i64 0, .int .i64 0, .int .i64 0, .int .i64 0, .int .i64 0, .int .i64 0, .int .i64 0, .int .i64 0, .int .i64 0, .int .i64 0, .int .i64 0, .int .i64 0, .string { data := #[] }, .string { data := #[] }, .slice none 0 0, .slice none 0 0] 31)).alloc (.cells #[.int .i64 0, .int .i64 0, .int .i64 0, .int .i64 0, .int .i64 0, .int .i64 0, .int .i64 0, .int .i64 0, .int .i64 0, .int .i64 0, .string { data := #[] }, .string { data := #[] }] 23)).setRow (w.heap.size + 1) #[.int .i64 2, .int .i64 1000, .int .i64 0, .int .i64 30, .int .i64 1, .int .i64 3, .int .i64 0, .int .i64 1, .int .i64 0, .int .i64 0, .string { data := #[104, 111, 109, 101] }, .string { data := #[69, 85, 82] }]) w.heap.size #[.int .i64 0, .int .i64 0, .int .i64 0, .int .i64 0, .int .i64 0, .int .i64 0, .int .i64 0, .int .i64 0, .int .i64 0, .int .i64 0, .int .i64 0, .int .i64 0, .int .i64 0, .int .i64 0, .int .i64 0, .int .i64 0, .int .i64 0, .int .i64 0, .int .i64 0, .int .i64 0, .int .i64 0, .string { data := #[] }, .string { data := #[] }, .slice none 0 0, .slice none 0 0] 31 := Blk_setRow_ne Bk.Blk.nw20 (by omega)
  have kt : Bk.Blk (((w.alloc (.cells #[.int .i64 0, .int .i64 0, .int .i64 0, .int .i64 0, .int .i64 0, .int .i64 0, .int .i64 0, .int .i64 0, .int .i64 0, .int .i64 0, .int .i64 0, .int .i64 0, .int .i64 0, .int .i64 0, .int .i64 0, .int .i64 0, .int .i64 0, .int .i64 0, .int .i64 0, .int .i64 0, .int .i64 0, .string { data := #[] }, .string { data := #[] }, .slice none 0 0, .slice none 0 0] 31)).alloc (.cells #[.int .i64 0, .int .i64 0, .int .i64 0, .int .i64 0, .int .i64 0, .int .i64 0, .int .i64 0, .int .i64 0, .int .i64 0, .int .i64 0, .string { data := #[] }, .string { data := #[] }] 23)).setRow (w.heap.size + 1) #[.int .i64 2, .int .i64 1000, .int .i64 0, .int .i64 30, .int .i64 1, .int .i64 3, .int .i64 0, .int .i64 1, .int .i64 0, .int .i64 0, .string { data := #[104, 111, 109, 101] }, .string { data := #[69, 85, 82] }]) (w.heap.size + 1) #[.int .i64 2, .int .i64 1000, .int .i64 0, .int .i64 30, .int .i64 1, .int .i64 3, .int .i64 0, .int .i64 1, .int .i64 0, .int .i64 0, .string { data := #[104, 111, 109, 101] }, .string { data := #[69, 85, 82] }] 23 := Blk_setRow_same Bk.Blk.nw21
  go_enter Tryz.func48, Tryz.ntmps48
  go_upto_region 2 with (refine wpList_store_row rfl 23 _ _ rfl _ _ rfl rfl _ _ Bk.Blk.nw21 (by kernel_rfl) rfl (by simp [Value.oneCell']) ?_)
  generalize (((w.alloc (.cells #[.int .i64 0, .int .i64 0, .int .i64 0, .int .i64 0, .int .i64 0, .int .i64 0, .int .i64 0, .int .i64 0, .int .i64 0, .int .i64 0, .int .i64 0, .int .i64 0, .int .i64 0, .int .i64 0, .int .i64 0, .int .i64 0, .int .i64 0, .int .i64 0, .int .i64 0, .int .i64 0, .int .i64 0, .string { data := #[] }, .string { data := #[] }, .slice none 0 0, .slice none 0 0] 31)).alloc (.cells #[.int .i64 0, .int .i64 0, .int .i64 0, .int .i64 0, .int .i64 0, .int .i64 0, .int .i64 0, .int .i64 0, .int .i64 0, .int .i64 0, .string { data := #[] }, .string { data := #[] }] 23)).setRow (w.heap.size + 1) #[.int .i64 2, .int .i64 1000, .int .i64 0, .int .i64 30, .int .i64 1, .int .i64 3, .int .i64 0, .int .i64 1, .int .i64 0, .int .i64 0, .string { data := #[104, 111, 109, 101] }, .string { data := #[69, 85, 82] }]) = w1 at *
  have hz1 := kz.lt
  have kz2 : Bk.Blk (w1.alloc (.cells #[.int .i64 1, .int .i64 59, .int .i64 334, .int .i64 0, .int .i64 2, .int .i64 90, .int .i64 333, .int .i64 0, .int .i64 3, .int .i64 120, .int .i64 333, .int .i64 0] 71)) w.heap.size #[.int .i64 0, .int .i64 0, .int .i64 0, .int .i64 0, .int .i64 0, .int .i64 0, .int .i64 0, .int .i64 0, .int .i64 0, .int .i64 0, .int .i64 0, .int .i64 0, .int .i64 0, .int .i64 0, .int .i64 0, .int .i64 0, .int .i64 0, .int .i64 0, .int .i64 0, .int .i64 0, .int .i64 0, .string { data := #[] }, .string { data := #[] }, .slice none 0 0, .slice none 0 0] 31 := kz.later ((Below.refl _ _).alloc (Nat.le_refl _) _)
  have cw2 : Below w.heap.size w (w1.alloc (.cells #[.int .i64 1, .int .i64 59, .int .i64 334, .int .i64 0, .int .i64 2, .int .i64 90, .int .i64 333, .int .i64 0, .int .i64 3, .int .i64 120, .int .i64 333, .int .i64 0] 71)) := Ln.bl2 ((Below.refl _ _).alloc (Nat.le_refl _) _) cw1
  have hd : DuesIn (w1.alloc (.cells #[.int .i64 1, .int .i64 59, .int .i64 334, .int .i64 0, .int .i64 2, .int .i64 90, .int .i64 333, .int .i64 0, .int .i64 3, .int .i64 120, .int .i64 333, .int .i64 0] 71)) (some ⟨w1.heap.size, 0, none⟩) smDs := dues_of_row (by decide) (row_of_cells (xs := smDs) Bk.Blk.nw10)
  go_wp2_with (first | (refine wpList_load_row rfl 23 _ rfl _ rfl _ _ _ _ kt Tryz.underlying23 rfl (by kernel_rfl) ?_) | (refine wpList_store_row rfl 31 _ _ rfl _ _ rfl rfl _ _ kz2 (by kernel_rfl) rfl (by simp [Value.oneCell']) ?_))
  refine bodyPost_ret (results_cell_row Tryz.results48 _ _ _ _ _ _ _ rfl (Blk_setRow_same kz2) Tryz.underlying31 rfl (by kernel_rfl)) rfl ?_
  exact ⟨_, rfl, ⟨w1.heap.size, rfl, dues_setRow hd (fun ad had => by cases had; show w1.heap.size ≠ w.heap.size; omega)⟩, Below_setRow cw2 (Nat.le_refl _) _⟩
def fewB (l : Lo) : Bool := decide (l.ds.length ≤ 40) && decide (l.cs.length ≤ 70)
set_option maxHeartbeats 4000000 in
theorem few_any (l : Lo) (da ca : Option Addr) (dk ck : Nat) (w : World) : Calls Tryz.prog 13 #[(.agg #[.int .i64 (l).id, .int .i64 (l).ac, .int .i64 (l).st, .int .i64 (l).pp, .int .i64 (l).pi, .int .i64 (l).fee, .int .i64 (l).pen, .int .i64 (l).chg, .int .i64 (l).prov, .int .i64 (l).loss, .int .i64 (l).rcv, .int .i64 ((l).tm).me, .int .i64 ((l).tm).pr, .int .i64 ((l).tm).ppm, .int .i64 ((l).tm).stt, .int .i64 ((l).tm).ev, .int .i64 ((l).tm).ct, .int .i64 ((l).tm).ba, .int .i64 ((l).tm).mo, .int .i64 ((l).tm).pen, .int .i64 ((l).tm).fe, .string ((l).tm).cal, .string ((l).tm).cur, .slice da (l).ds.length dk, .slice ca (l).cs.length ck])] w fun e w' => e = .returned (.bool (fewB l)) ∧ Below w.heap.size w w' := by
  have cw : Below w.heap.size w (w.alloc (.cells #[.int .i64 (l).id, .int .i64 (l).ac, .int .i64 (l).st, .int .i64 (l).pp, .int .i64 (l).pi, .int .i64 (l).fee, .int .i64 (l).pen, .int .i64 (l).chg, .int .i64 (l).prov, .int .i64 (l).loss, .int .i64 (l).rcv, .int .i64 ((l).tm).me, .int .i64 ((l).tm).pr, .int .i64 ((l).tm).ppm, .int .i64 ((l).tm).stt, .int .i64 ((l).tm).ev, .int .i64 ((l).tm).ct, .int .i64 ((l).tm).ba, .int .i64 ((l).tm).mo, .int .i64 ((l).tm).pen, .int .i64 ((l).tm).fe, .string ((l).tm).cal, .string ((l).tm).cur, .slice da (l).ds.length dk, .slice ca (l).cs.length ck] 31)) := (Below.refl _ _).alloc (Nat.le_refl _) _
  have k0 : Bk.Blk (w.alloc (.cells #[.int .i64 (l).id, .int .i64 (l).ac, .int .i64 (l).st, .int .i64 (l).pp, .int .i64 (l).pi, .int .i64 (l).fee, .int .i64 (l).pen, .int .i64 (l).chg, .int .i64 (l).prov, .int .i64 (l).loss, .int .i64 (l).rcv, .int .i64 ((l).tm).me, .int .i64 ((l).tm).pr, .int .i64 ((l).tm).ppm, .int .i64 ((l).tm).stt, .int .i64 ((l).tm).ev, .int .i64 ((l).tm).ct, .int .i64 ((l).tm).ba, .int .i64 ((l).tm).mo, .int .i64 ((l).tm).pen, .int .i64 ((l).tm).fe, .string ((l).tm).cal, .string ((l).tm).cur, .slice da (l).ds.length dk, .slice ca (l).cs.length ck] 31)) w.heap.size #[.int .i64 (l).id, .int .i64 (l).ac, .int .i64 (l).st, .int .i64 (l).pp, .int .i64 (l).pi, .int .i64 (l).fee, .int .i64 (l).pen, .int .i64 (l).chg, .int .i64 (l).prov, .int .i64 (l).loss, .int .i64 (l).rcv, .int .i64 ((l).tm).me, .int .i64 ((l).tm).pr, .int .i64 ((l).tm).ppm, .int .i64 ((l).tm).stt, .int .i64 ((l).tm).ev, .int .i64 ((l).tm).ct, .int .i64 ((l).tm).ba, .int .i64 ((l).tm).mo, .int .i64 ((l).tm).pen, .int .i64 ((l).tm).fe, .string ((l).tm).cal, .string ((l).tm).cur, .slice da (l).ds.length dk, .slice ca (l).cs.length ck] 31 := Bk.Blk.nw10
  have l23 := k0.c23
  have l24 := k0.c24
  go_enter Tryz.func13, Tryz.ntmps13
  go_upto_region 1 with fail
  generalize (w.alloc (.cells #[.int .i64 (l).id, .int .i64 (l).ac, .int .i64 (l).st, .int .i64 (l).pp, .int .i64 (l).pi, .int .i64 (l).fee, .int .i64 (l).pen, .int .i64 (l).chg, .int .i64 (l).prov, .int .i64 (l).loss, .int .i64 (l).rcv, .int .i64 ((l).tm).me, .int .i64 ((l).tm).pr, .int .i64 ((l).tm).ppm, .int .i64 ((l).tm).stt, .int .i64 ((l).tm).ev, .int .i64 ((l).tm).ct, .int .i64 ((l).tm).ba, .int .i64 ((l).tm).mo, .int .i64 ((l).tm).pen, .int .i64 ((l).tm).fe, .string ((l).tm).cal, .string ((l).tm).cur, .slice da (l).ds.length dk, .slice ca (l).cs.length ck] 31)) = w1 at *
  by_cases h1 : l.ds.length ≤ 40
  · by_cases h2 : l.cs.length ≤ 70
    · have HF := Lib.hid (show fewB l = true from by unfold fewB; rw [decide_eq_true h1, decide_eq_true h2]; rfl)
      go_wp2_with fail
      go_ret
      exact ⟨by rw [HF.out]; first | rfl | (simp; done) | (simp; omega), cw⟩
    · have HF := Lib.hid (show fewB l = false from by unfold fewB; rw [decide_eq_false h2]; simp)
      go_wp2_with fail
      go_ret
      exact ⟨by rw [HF.out]; first | rfl | (simp; done) | (simp; omega), cw⟩
  · have HF := Lib.hid (show fewB l = false from by unfold fewB; rw [decide_eq_false h1]; simp)
    go_wp2_with fail
    go_ret
    exact ⟨by rw [HF.out]; first | rfl | (simp; done) | (simp; omega), cw⟩
def smlB (t : Tm) (c : Cl) : Bool := (decide (t.ct ≤ 40) || decide (120 < t.ct)) && decide (c.wk.length ≤ 10) && decide (c.hol.length ≤ 500)
set_option maxHeartbeats 4000000 in
theorem small_any (t : Tm) (c : Cl) (wa ha : Option Addr) (wc hc : Nat) (w : World) (n1 : c.wk.length ≤ 9223372036854775807) (n2 : c.hol.length ≤ 9223372036854775807) : Calls Tryz.prog 14 #[(.agg #[.int .i64 (t).me, .int .i64 (t).pr, .int .i64 (t).ppm, .int .i64 (t).stt, .int .i64 (t).ev, .int .i64 (t).ct, .int .i64 (t).ba, .int .i64 (t).mo, .int .i64 (t).pen, .int .i64 (t).fe, .string (t).cal, .string (t).cur]), (.agg #[.string (c).nm, .slice wa (c).wk.length wc, .slice ha (c).hol.length hc])] w fun e w' => e = .returned (.bool (smlB t c)) ∧ Below w.heap.size w w' := by
  have cw : Below w.heap.size w ((w.alloc (.cells #[.int .i64 (t).me, .int .i64 (t).pr, .int .i64 (t).ppm, .int .i64 (t).stt, .int .i64 (t).ev, .int .i64 (t).ct, .int .i64 (t).ba, .int .i64 (t).mo, .int .i64 (t).pen, .int .i64 (t).fe, .string (t).cal, .string (t).cur] 23)).alloc (.cells #[.string c.nm, .slice wa c.wk.length wc, .slice ha c.hol.length hc] 26)) := ((Below.refl _ _).alloc (Nat.le_refl _) _).alloc (by simp) _
  have k0 : Bk.Blk ((w.alloc (.cells #[.int .i64 (t).me, .int .i64 (t).pr, .int .i64 (t).ppm, .int .i64 (t).stt, .int .i64 (t).ev, .int .i64 (t).ct, .int .i64 (t).ba, .int .i64 (t).mo, .int .i64 (t).pen, .int .i64 (t).fe, .string (t).cal, .string (t).cur] 23)).alloc (.cells #[.string c.nm, .slice wa c.wk.length wc, .slice ha c.hol.length hc] 26)) w.heap.size #[.int .i64 (t).me, .int .i64 (t).pr, .int .i64 (t).ppm, .int .i64 (t).stt, .int .i64 (t).ev, .int .i64 (t).ct, .int .i64 (t).ba, .int .i64 (t).mo, .int .i64 (t).pen, .int .i64 (t).fe, .string (t).cal, .string (t).cur] 23 := Bk.Blk.nw20
  have k1 : Bk.Blk ((w.alloc (.cells #[.int .i64 (t).me, .int .i64 (t).pr, .int .i64 (t).ppm, .int .i64 (t).stt, .int .i64 (t).ev, .int .i64 (t).ct, .int .i64 (t).ba, .int .i64 (t).mo, .int .i64 (t).pen, .int .i64 (t).fe, .string (t).cal, .string (t).cur] 23)).alloc (.cells #[.string c.nm, .slice wa c.wk.length wc, .slice ha c.hol.length hc] 26)) (w.heap.size + 1) #[.string c.nm, .slice wa c.wk.length wc, .slice ha c.hol.length hc] 26 := Bk.Blk.nw21
  have l5 := k0.c5
  have q1 := k1.c1
  have q2 := k1.c2
  go_enter Tryz.func14, Tryz.ntmps14
  go_upto_region 1 with fail
  generalize ((w.alloc (.cells #[.int .i64 (t).me, .int .i64 (t).pr, .int .i64 (t).ppm, .int .i64 (t).stt, .int .i64 (t).ev, .int .i64 (t).ct, .int .i64 (t).ba, .int .i64 (t).mo, .int .i64 (t).pen, .int .i64 (t).fe, .string (t).cal, .string (t).cur] 23)).alloc (.cells #[.string c.nm, .slice wa c.wk.length wc, .slice ha c.hol.length hc] 26)) = w1 at *
  by_cases h1 : t.ct ≤ 40
  · have h2 : ¬ 120 < t.ct := by omega
    by_cases h3 : c.wk.length ≤ 10
    · by_cases h4 : c.hol.length ≤ 500
      · have HF := Lib.hid (show smlB t c = true from by unfold smlB; simp [h1, h2, h3, h4])
        go_wp2_with fail
        go_ret
        exact ⟨by rw [HF.out]; first | rfl | (simp; done) | (simp; omega), cw⟩
      · have HF := Lib.hid (show smlB t c = false from by unfold smlB; simp [h4])
        go_wp2_with fail
        go_ret
        exact ⟨by rw [HF.out]; first | rfl | (simp; done) | (simp; omega), cw⟩
    · have HF := Lib.hid (show smlB t c = false from by unfold smlB; simp [h3])
      go_wp2_with fail
      go_ret
      exact ⟨by rw [HF.out]; first | rfl | (simp; done) | (simp; omega), cw⟩
  · by_cases h2 : 120 < t.ct
    · by_cases h3 : c.wk.length ≤ 10
      · by_cases h4 : c.hol.length ≤ 500
        · have HF := Lib.hid (show smlB t c = true from by unfold smlB; simp [h1, h2, h3, h4])
          go_wp2_with fail
          go_ret
          exact ⟨by rw [HF.out]; first | rfl | (simp; done) | (simp; omega), cw⟩
        · have HF := Lib.hid (show smlB t c = false from by unfold smlB; simp [h4])
          go_wp2_with fail
          go_ret
          exact ⟨by rw [HF.out]; first | rfl | (simp; done) | (simp; omega), cw⟩
      · have HF := Lib.hid (show smlB t c = false from by unfold smlB; simp [h3])
        go_wp2_with fail
        go_ret
        exact ⟨by rw [HF.out]; first | rfl | (simp; done) | (simp; omega), cw⟩
    · have HF := Lib.hid (show smlB t c = false from by unfold smlB; simp [h1, h2])
      go_wp2_with fail
      go_ret
      exact ⟨by rw [HF.out]; first | rfl | (simp; done) | (simp; omega), cw⟩
theorem cap_s (g : Nat) (w : World) (h : DuesIn w (some ⟨g, 0, none⟩) smDs) : Calls Tryz.prog 47 #[.agg #[.int .i64 1, .int .i64 1000, .int .i64 1, .int .i64 300, .int .i64 0, .int .i64 0, .int .i64 5, .int .i64 30, .int .i64 0, .int .i64 0, .int .i64 0, .int .i64 2, .int .i64 1000, .int .i64 0, .int .i64 30, .int .i64 1, .int .i64 3, .int .i64 0, .int .i64 1, .int .i64 0, .int .i64 0, .string { data := #[104, 111, 109, 101] }, .string { data := #[69, 85, 82] }, .slice (some ⟨g, 0, none⟩) 3 3, .slice none 0 0], .int .i64 100] w fun e w' => e = .returned (.tuple #[.int .i64 705, .int .i64 0]) ∧ Below w.heap.size w w' :=
  (cap_any smL (some ⟨g, 0, none⟩) none 3 0 100 w h (by intro d hd; simp [smL] at hd; rcases hd with rfl | rfl | rfl <;> decide) (by decide)).mono fun e w' ⟨he, hb⟩ => by
    rw [show capV smL 100 = 705 from (if_pos sm_cap.1).trans sm_cap.2, sm_cap.1] at he
    exact ⟨he, hb⟩
def NvP (w0 : World) (v : Value) (W : World) : Prop := ∃ da dk ca ck, v = .tuple #[.agg #[.int .i64 1, .int .i64 1000, .int .i64 1, .int .i64 0, .int .i64 0, .int .i64 0, .int .i64 0, .int .i64 100, .int .i64 0, .int .i64 0, .int .i64 0, .int .i64 2, .int .i64 705, .int .i64 0, .int .i64 100, .int .i64 1, .int .i64 1, .int .i64 0, .int .i64 1, .int .i64 0, .int .i64 0, .string { data := #[104, 111, 109, 101] }, .string { data := #[69, 85, 82] }, .slice da 1 dk, .slice ca 1 ck], .int .i64 0] ∧ DuesIn W da [⟨1, 130, 705, 0⟩] ∧ RowIn cenc W ca [⟨100, 705, smT⟩] ∧ ((∀ ad, da = some ad → w0.heap.size ≤ ad.block) ∧ (∀ ad, ca = some ad → w0.heap.size ≤ ad.block))
theorem chg_s (g : Nat) (w : World) (h : DuesIn w (some ⟨g, 0, none⟩) smDs) (hS : Rd.Stp w) : Calls Tryz.prog 49 #[.agg #[.int .i64 1, .int .i64 1000, .int .i64 1, .int .i64 300, .int .i64 0, .int .i64 0, .int .i64 5, .int .i64 30, .int .i64 0, .int .i64 0, .int .i64 0, .int .i64 2, .int .i64 1000, .int .i64 0, .int .i64 30, .int .i64 1, .int .i64 3, .int .i64 0, .int .i64 1, .int .i64 0, .int .i64 0, .string { data := #[104, 111, 109, 101] }, .string { data := #[69, 85, 82] }, .slice (some ⟨g, 0, none⟩) 3 3, .slice none 0 0], .agg #[.int .i64 2, .int .i64 705, .int .i64 0, .int .i64 100, .int .i64 1, .int .i64 1, .int .i64 0, .int .i64 1, .int .i64 0, .int .i64 0, .string { data := #[104, 111, 109, 101] }, .string { data := #[69, 85, 82] }], .int .i64 100, .agg #[.string { data := #[104, 111, 109, 101] }, .slice none 0 0, .slice none 0 0]] w fun e w' => ∃ v, e = .returned v ∧ NvP w v w' ∧ Below w.heap.size w w' :=
  (change_any smL (some ⟨g, 0, none⟩) none 3 0 smT2 100 cl0 none none 0 0 w h (fun h => absurd h (by decide)) (by intro d hd; simp [smL] at hd; rcases hd with rfl | rfl | rfl <;> decide) (by decide) (by decide) ⟨⟨by decide, fun h => absurd h (by decide)⟩, ⟨by decide, fun h => absurd h (by decide)⟩, by decide⟩ (by decide) hS).mono fun e w' ⟨da, dk, ca, ck, he, hd, hr, hf, hb⟩ => by
    rw [sm_chL] at hd hr he
    rw [sm_chE] at he
    exact ⟨_, he, ⟨da, dk, ca, ck, rfl, hd, hr, hf⟩, hb⟩
def ZvP (v : Value) (_ : World) : Prop := ∃ da dk ca ck, v = .tuple #[.agg #[.int .i64 0, .int .i64 0, .int .i64 0, .int .i64 0, .int .i64 0, .int .i64 0, .int .i64 0, .int .i64 0, .int .i64 0, .int .i64 0, .int .i64 0, .int .i64 0, .int .i64 0, .int .i64 0, .int .i64 0, .int .i64 0, .int .i64 0, .int .i64 0, .int .i64 0, .int .i64 0, .int .i64 0, .string { data := #[] }, .string { data := #[] }, .slice da 0 dk, .slice ca 0 ck], .int .i64 1]
theorem chg_e (g : Nat) (w : World) (h : DuesIn w (some ⟨g, 0, none⟩) smDs) (hS : Rd.Stp w) : Calls Tryz.prog 49 #[.agg #[.int .i64 1, .int .i64 1000, .int .i64 1, .int .i64 300, .int .i64 0, .int .i64 0, .int .i64 5, .int .i64 30, .int .i64 0, .int .i64 0, .int .i64 0, .int .i64 2, .int .i64 1000, .int .i64 0, .int .i64 30, .int .i64 1, .int .i64 3, .int .i64 0, .int .i64 1, .int .i64 0, .int .i64 0, .string { data := #[104, 111, 109, 101] }, .string { data := #[69, 85, 82] }, .slice (some ⟨g, 0, none⟩) 3 3, .slice none 0 0], .agg #[.int .i64 2, .int .i64 1000, .int .i64 0, .int .i64 30, .int .i64 1, .int .i64 3, .int .i64 0, .int .i64 1, .int .i64 0, .int .i64 0, .string { data := #[104, 111, 109, 101] }, .string { data := #[69, 85, 82] }], .int .i64 100, .agg #[.string { data := #[104, 111, 109, 101] }, .slice none 0 0, .slice none 0 0]] w fun e w' => ∃ v, e = .returned v ∧ ZvP v w' ∧ Below w.heap.size w w' :=
  (change_any smL (some ⟨g, 0, none⟩) none 3 0 smT 100 cl0 none none 0 0 w h (fun h => absurd h (by decide)) (by intro d hd; simp [smL] at hd; rcases hd with rfl | rfl | rfl <;> decide) (by decide) (by decide) ⟨⟨by decide, fun h => absurd h (by decide)⟩, ⟨by decide, fun h => absurd h (by decide)⟩, by decide⟩ (by decide) hS).mono fun e w' ⟨da, dk, ca, ck, he, hd, hr, hf, hb⟩ => by
    rw [sm_chL1, sm_chE1] at he
    exact ⟨_, he, ⟨da, dk, ca, ck, rfl⟩, hb⟩
theorem terms_99 (da ca : Option Addr) (dk ck : Nat) (w : World) (h : RowIn cenc w ca [(⟨100, 705, smT⟩ : Ch)]) : Calls Tryz.prog 50 #[.agg #[.int .i64 1, .int .i64 1000, .int .i64 1, .int .i64 0, .int .i64 0, .int .i64 0, .int .i64 0, .int .i64 100, .int .i64 0, .int .i64 0, .int .i64 0, .int .i64 2, .int .i64 705, .int .i64 0, .int .i64 100, .int .i64 1, .int .i64 1, .int .i64 0, .int .i64 1, .int .i64 0, .int .i64 0, .string { data := #[104, 111, 109, 101] }, .string { data := #[69, 85, 82] }, .slice da 1 dk, .slice ca 1 ck], .int .i64 99] w fun e w' => e = .returned (.agg #[.int .i64 2, .int .i64 1000, .int .i64 0, .int .i64 30, .int .i64 1, .int .i64 3, .int .i64 0, .int .i64 1, .int .i64 0, .int .i64 0, .string { data := #[104, 111, 109, 101] }, .string { data := #[69, 85, 82] }]) ∧ Below w.heap.size w w' :=
  (terms_on smN da ca dk ck 99 w h (by decide)).mono fun e w' ⟨he, hb⟩ => by
    rw [show tmOn smN.tm smN.cs 99 = smT from sm_tm.1] at he
    exact ⟨he, hb⟩
theorem terms_100 (da ca : Option Addr) (dk ck : Nat) (w : World) (h : RowIn cenc w ca [(⟨100, 705, smT⟩ : Ch)]) : Calls Tryz.prog 50 #[.agg #[.int .i64 1, .int .i64 1000, .int .i64 1, .int .i64 0, .int .i64 0, .int .i64 0, .int .i64 0, .int .i64 100, .int .i64 0, .int .i64 0, .int .i64 0, .int .i64 2, .int .i64 705, .int .i64 0, .int .i64 100, .int .i64 1, .int .i64 1, .int .i64 0, .int .i64 1, .int .i64 0, .int .i64 0, .string { data := #[104, 111, 109, 101] }, .string { data := #[69, 85, 82] }, .slice da 1 dk, .slice ca 1 ck], .int .i64 100] w fun e w' => e = .returned (.agg #[.int .i64 2, .int .i64 705, .int .i64 0, .int .i64 100, .int .i64 1, .int .i64 1, .int .i64 0, .int .i64 1, .int .i64 0, .int .i64 0, .string { data := #[104, 111, 109, 101] }, .string { data := #[69, 85, 82] }]) ∧ Below w.heap.size w w' :=
  (terms_on smN da ca dk ck 100 w h (by decide)).mono fun e w' ⟨he, hb⟩ => by
    rw [show tmOn smN.tm smN.cs 100 = smT2 from sm_tm.2] at he
    exact ⟨he, hb⟩
theorem chgs_s (da ca : Option Addr) (dk ck : Nat) (w : World) (h : RowIn cenc w ca [(⟨100, 705, smT⟩ : Ch)]) : Calls Tryz.prog 51 #[.agg #[.int .i64 1, .int .i64 1000, .int .i64 1, .int .i64 0, .int .i64 0, .int .i64 0, .int .i64 0, .int .i64 100, .int .i64 0, .int .i64 0, .int .i64 0, .int .i64 2, .int .i64 705, .int .i64 0, .int .i64 100, .int .i64 1, .int .i64 1, .int .i64 0, .int .i64 1, .int .i64 0, .int .i64 0, .string { data := #[104, 111, 109, 101] }, .string { data := #[69, 85, 82] }, .slice da 1 dk, .slice ca 1 ck]] w fun e w' => e = .returned (.bool true) ∧ Below w.heap.size w w' :=
  (chgs_any smN da ca dk ck w h (by decide)).mono fun e w' ⟨he, hb⟩ => by
    rw [sm_chgs] at he
    exact ⟨he, hb⟩
end Go.Proofs.YtfiplppdmedhkaaGreatDoor.Ln
