/-
  Parts of the proof: B27.
-/
import Derived.Test.YtlolflephnbbcaaGreatDoorQ38
import Derived.Test.YtlolflephnbbcaaGreatDoorQ47
import Derived.Test.YtlolflephnbbcaaGreatDoorQ33
import Derived.Test.YtlolflephnbbcaaGreatDoorQ46
namespace Go.Proofs.YtlolflephnbbcaaGreatDoor.Ln
open Go Go.RowKit
open Go.Proofs.YtlolflephnbbcaaGreatDoor
open Go.Proofs.YtlolflephnbbcaaGreatDoor.Kl (Cl CalIn skE rskchk_any blE blV bl_facts bl_len bl_P)
set_option linter.unusedSimpArgs false
set_option linter.unusedVariables false
set_option maxRecDepth 100000
def ezB (t : Tm) (c : Cl) : Bool := decide (t.ct ≤ 40) && decide (c.hol.length ≤ 40) && decide (c.wk.length ≤ 10) && (skE t c == 0)
set_option maxHeartbeats 8000000 in
theorem easy_any (t : Tm) (c : Cl) (wa ha : Option Addr) (wc hc : Nat) (w : World) (h : CalIn w c wa ha) (hcu : t.cur.size ≤ maxLen) : Calls Tryz.prog 4 #[(.agg #[.int .i64 (t).me, .int .i64 (t).pr, .int .i64 (t).ppm, .int .i64 (t).stt, .int .i64 (t).ev, .int .i64 (t).ct, .int .i64 (t).ba, .int .i64 (t).mo, .int .i64 (t).pen, .int .i64 (t).fe, .string (t).cal, .string (t).cur]), (.agg #[.string (c).nm, .slice wa (c).wk.length wc, .slice ha (c).hol.length hc])] w fun e w' => e = .returned (.bool (ezB t c)) ∧ Below w.heap.size w w' := by
 have cw : Below w.heap.size w ((w.alloc (.cells #[.int .i64 (t).me, .int .i64 (t).pr, .int .i64 (t).ppm, .int .i64 (t).stt, .int .i64 (t).ev, .int .i64 (t).ct, .int .i64 (t).ba, .int .i64 (t).mo, .int .i64 (t).pen, .int .i64 (t).fe, .string (t).cal, .string (t).cur] 23)).alloc (.cells #[.string c.nm, .slice wa c.wk.length wc, .slice ha c.hol.length hc] 26)) := ((Below.refl _ _).alloc (Nat.le_refl _) _).alloc (by simp) _
 have k0 : Bk.Blk ((w.alloc (.cells #[.int .i64 (t).me, .int .i64 (t).pr, .int .i64 (t).ppm, .int .i64 (t).stt, .int .i64 (t).ev, .int .i64 (t).ct, .int .i64 (t).ba, .int .i64 (t).mo, .int .i64 (t).pen, .int .i64 (t).fe, .string (t).cal, .string (t).cur] 23)).alloc (.cells #[.string c.nm, .slice wa c.wk.length wc, .slice ha c.hol.length hc] 26)) w.heap.size _ 23 := Bk.Blk.nw20
 have k1 : Bk.Blk ((w.alloc (.cells #[.int .i64 (t).me, .int .i64 (t).pr, .int .i64 (t).ppm, .int .i64 (t).stt, .int .i64 (t).ev, .int .i64 (t).ct, .int .i64 (t).ba, .int .i64 (t).mo, .int .i64 (t).pen, .int .i64 (t).fe, .string (t).cal, .string (t).cur] 23)).alloc (.cells #[.string c.nm, .slice wa c.wk.length wc, .slice ha c.hol.length hc] 26)) (w.heap.size + 1) _ 26 := Bk.Blk.nw21
 have HR := Lib.hid (fun (W : World) (hW : Below w.heap.size w W) => rskchk_any t c wa ha wc hc W (h.later hW) hcu)
 have n1 := h.wk.1
 have n2 := h.hol.1
 clear h hcu
 have l5 := k0.c5
 have q1 := k1.c1
 have q2 := k1.c2
 go_enter Tryz.func4, Tryz.ntmps4
 go_upto_region 1 with fail
 have cw1 := cw
 clear cw
 generalize ((w.alloc (.cells _ 23)).alloc (.cells _ 26)) = w1 at *
 by_cases h1 : t.ct ≤ 40
 ·by_cases h2 : c.hol.length ≤ 40
  ·by_cases h3 : c.wk.length ≤ 10
   ·have g1 : decide (t.ct ≤ 40) = true := decide_eq_true h1
    have g2 : decide ((c.hol.length : Int) ≤ 40) = true := decide_eq_true (by omega)
    have g3 : decide ((c.wk.length : Int) ≤ 10) = true := decide_eq_true (by omega)
    go_wp2_with (first | (refine wpList_load_row rfl 23 _ rfl _ rfl _ _ _ _ k0 Tryz.underlying23 rfl (by kernel_rfl) ?_) | (refine wpList_load_row rfl 26 _ rfl _ rfl _ _ _ _ k1 Tryz.underlying26 rfl (by kernel_rfl) ?_) | (refine load_guarded 23 _ rfl rfl _ rfl _ _ _ _ k0 Tryz.underlying23 rfl (by kernel_rfl) ?_) | (refine load_guarded 26 _ rfl rfl _ rfl _ _ _ _ k1 Tryz.underlying26 rfl (by kernel_rfl) ?_))
    refine (HR.out _ cw1).mono ?_
    rintro e w2 ⟨rfl, hb⟩
    have cw2 := bl2 hb cw1
    clear hb cw1 l5 q1 q2 k0 k1
    by_cases he : skE t c = 0
    ·have HF := Lib.hid (show ezB t c = true from by unfold ezB; simp [h1, h2, h3, he])
     go_wp2_with fail
     go_ret
     exact ⟨by rw [HF.out]; first | rfl | (simp; done) | (simp; omega), cw2⟩
    ·have HF := Lib.hid (show ezB t c = false from by unfold ezB; simp [he])
     go_wp2_with fail
     go_ret
     exact ⟨by rw [HF.out]; first | rfl | (simp; done) | (simp; omega), cw2⟩
   ·have HF := Lib.hid (show ezB t c = false from by unfold ezB; simp [h3])
    go_wp2_with fail
    go_ret
    exact ⟨by rw [HF.out]; first | rfl | (simp; done) | (simp; omega), cw1⟩
  ·have HF := Lib.hid (show ezB t c = false from by unfold ezB; simp [h2])
   go_wp2_with fail
   go_ret
   exact ⟨by rw [HF.out]; first | rfl | (simp; done) | (simp; omega), cw1⟩
 ·have HF := Lib.hid (show ezB t c = false from by unfold ezB; simp [h1])
  go_wp2_with fail
  go_ret
  exact ⟨by rw [HF.out]; first | rfl | (simp; done) | (simp; omega), cw1⟩
set_option maxHeartbeats 8000000 in
theorem loses_any (w : World) (hC : Ctb w) (hS : Rd.Stp w) (ht : Bm.Tab w) : Calls Tryz.prog 5 #[] w fun e w' => e = .returned (.bool true) ∧ Below w.heap.size w w' := by
 have HT := Lib.hid (fun (W : World) (hW : Below w.heap.size w W) => And.intro (hC.of hW) (And.intro (hS.of hW) (ht.of hW)))
 clear hC hS ht
 have cw : Below w.heap.size w w := Below.refl _ _
 go_enter Tryz.func5, Tryz.ntmps5
 go_wp2_with fail
 refine (Bm.alive_any _ (HT.out _ cw).2.2).mono ?_
 rintro e w1 ⟨rfl, hb⟩
 have c1 := bl2 hb cw
 clear hb cw
 go_wp2_with fail
 refine (live_any _).mono ?_
 rintro e w2 ⟨rfl, hb⟩
 have c2 := bl2 hb c1
 clear hb c1
 go_wp2_with fail
 refine (live38_any _ (HT.out _ c2).1 (HT.out _ c2).2.1).mono ?_
 rintro e w3 ⟨rfl, hb⟩
 have c3 := bl2 hb c2
 clear hb c2
 go_wp2_with fail
 refine (lives39_any _ (HT.out _ c3).1).mono ?_
 rintro e w4 ⟨rfl, hb⟩
 have c4 := bl2 hb c3
 clear hb c3
 go_wp2_with fail
 go_ret
 exact ⟨rfl, c4⟩
theorem tl_facts {t : Tm} {c : Cl} (h : disE 7 1000 t c = 0) : Ok (disL 7 1000 t c) ∧ wrap64 (P (disL 7 1000 t c).ds - (disL 7 1000 t c).pp) = t.pr ∧ (0 ≤ t.pr ∧ t.pr ≤ 1000000000000) ∧ (disL 7 1000 t c).prov = 0 ∧ (disL 7 1000 t c).st = 1 ∧ (0 ≤ t.stt ∧ t.stt ≤ 73048) := by
 obtain ⟨_, _, hb⟩ := dis_parts h
 obtain ⟨_, ht, _, _, _⟩ := bl_facts hb
 have hpr := ht.pr
 have hst := ht.stt
 have hP := bl_P hb
 refine ⟨ok_iff.1 (dis_chk h), ?_, by omega, ?_, ?_, by omega⟩
 ·unfold disL
  rw [if_pos h]
  show wrap64 (P (blV t c) - 0) = t.pr
  rw [hP]
  unfold wrap64
  omega
 ·unfold disL
  rw [if_pos h]
  rfl
 ·unfold disL
  rw [if_pos h]
  rfl
theorem tl_write {l : Lo} {p v : Int} (hp : wrap64 (P l.ds - l.pp) = p) (h0 : 0 ≤ p ∧ p ≤ 1000000000000) (hv : 0 ≤ v ∧ v ≤ 1000000000000) : (wrO (l.prv v)).prov = 0 ∧ (wrO (l.prv v)).loss = p ∧ wrN (l.prv v) = p - v := by
 refine ⟨rfl, hp, ?_⟩
 show wrap64 (wrap64 (P l.ds - l.pp) - v) = p - v
 rw [hp]
 unfold wrap64
 omega
end Go.Proofs.YtlolflephnbbcaaGreatDoor.Ln
