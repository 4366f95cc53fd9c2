/-
 The reference of chapter 35: sums, what is not due, the interest, the fee, the quote, parts.
-/
import Derived.Test.YtaanicginfjgdaaGreatDoorPfa
import Derived.Test.YtaanicginfjgdaaGreatDoorLrz
namespace Go.Proofs.YtaanicginfjgdaaGreatDoor.Pp
open Go Go.RowKit
open Go.Proofs.YtaanicginfjgdaaGreatDoor
open Go.Proofs.YtaanicginfjgdaaGreatDoor.Ln (Tm Ch Du Lo Pa sum prs its P I due chk Ok ok_iff wrap_in wrap_add powed zLo LoIn DuesIn RowIn OwnR denc denc_len cenc cenc_len penc penc_len tenc flat flat_len Dok dues_of_row bl2 SB SB.mono SQ SQ.mono take_at one_at two_at call_at call_wp call_one call_pv value_wp yields_load_row Blk_setRow_same Blk_setRow_ne Below_setRow dues_setRow row_row one25 load_guarded results2_cell dues_lt rowc_lt rangeAt_later tk ts z0 z1 z3 z4 z5)
open Go.Proofs.YtaanicginfjgdaaGreatDoor.Sr (GV DV gv_made parts_wp dues_wp blk_low gv_low)
open Go.Proofs.YtaanicginfjgdaaGreatDoor.Rd (gd pcV pcE Stp)
open Go.Proofs.YtaanicginfjgdaaGreatDoor.Kl (Cl CalIn skE)
set_option linter.unusedSimpArgs false
set_option linter.unusedVariables false
set_option maxRecDepth 100000

theorem row_of_blk {α : Type} {enc : α → List Value} {W : World} {g : Nat} {t : TypeId} {xs : List α} (h : Bk.Blk W g (flat enc xs).toArray t) : RowIn enc W (some ⟨g, 0, none⟩) xs := fun _ =>
 ⟨g, 0, rfl, fun j u hj => by rw [Nat.zero_add, h.cell]; simpa using hj⟩
theorem rpos_any (n : Int) (w : World) : Calls Tryz.prog 58 #[.int .i64 n] w fun e w' => e = .returned (.int .i64 (max 0 n)) ∧ Below w.heap.size w w' := by
 by_cases h : n < 0
 ·go_enter Tryz.func58, Tryz.ntmps58
  go_wp2_with fail
  go_ret
  exact ⟨by rw [show max 0 n = 0 by omega]; rfl, Below.refl _ _⟩
 ·go_enter Tryz.func58, Tryz.ntmps58
  go_wp2_with fail
  go_ret
  exact ⟨by rw [show max 0 n = n by omega]; rfl, Below.refl _ _⟩
def SmR (w1 : World) (ds : List Du) (n : Nat) (g : Nat) (s6 s7 s8 : Value) (W : World) : Prop := ∃ i : Nat, i + g = n ∧ s8 = .int .i64 i ∧ s6 = .int .i64 (P (ds.take i)) ∧ s7 = .int .i64 (I (ds.take i)) ∧ w1 = W
set_option maxHeartbeats 4000000 in
theorem sums35_any (l : Lo) (da ca : Option Addr) (dk ck : Nat) (n : Nat) (w : World) (h : DuesIn w da l.ds) (hn : n ≤ l.ds.length) (hl : l.ds.length ≤ 100000) : Calls Tryz.prog 38 #[(.agg #[.int .i64 (l).id, .int .i64 (l).ac, .int .i64 (l).st, .int .i64 (l).pp, .int .i64 (l).pi, .int .i64 (l).fee, .int .i64 (l).pen, .int .i64 (l).chg, .int .i64 (l).prov, .int .i64 (l).loss, .int .i64 (l).rcv, .int .i64 ((l).tm).me, .int .i64 ((l).tm).pr, .int .i64 ((l).tm).ppm, .int .i64 ((l).tm).stt, .int .i64 ((l).tm).ev, .int .i64 ((l).tm).ct, .int .i64 ((l).tm).ba, .int .i64 ((l).tm).mo, .int .i64 ((l).tm).pen, .int .i64 ((l).tm).fe, .string ((l).tm).cal, .string ((l).tm).cur, .slice da (l).ds.length dk, .slice ca (l).cs.length ck]), .int .i64 n] w fun e w' => e = .returned (.tuple #[.int .i64 (P (l.ds.take n)), .int .i64 (I (l.ds.take n))]) ∧ Below w.heap.size w w' := by
 have cw1 : Below w.heap.size w (w.alloc (.cells #[.int .i64 (l).id, .int .i64 (l).ac, .int .i64 (l).st, .int .i64 (l).pp, .int .i64 (l).pi, .int .i64 (l).fee, .int .i64 (l).pen, .int .i64 (l).chg, .int .i64 (l).prov, .int .i64 (l).loss, .int .i64 (l).rcv, .int .i64 ((l).tm).me, .int .i64 ((l).tm).pr, .int .i64 ((l).tm).ppm, .int .i64 ((l).tm).stt, .int .i64 ((l).tm).ev, .int .i64 ((l).tm).ct, .int .i64 ((l).tm).ba, .int .i64 ((l).tm).mo, .int .i64 ((l).tm).pen, .int .i64 ((l).tm).fe, .string ((l).tm).cal, .string ((l).tm).cur, .slice da (l).ds.length dk, .slice ca (l).cs.length ck] 27)) := (Below.refl _ _).alloc (Nat.le_refl _) _
 have k0 : Bk.Blk (w.alloc (.cells #[.int .i64 (l).id, .int .i64 (l).ac, .int .i64 (l).st, .int .i64 (l).pp, .int .i64 (l).pi, .int .i64 (l).fee, .int .i64 (l).pen, .int .i64 (l).chg, .int .i64 (l).prov, .int .i64 (l).loss, .int .i64 (l).rcv, .int .i64 ((l).tm).me, .int .i64 ((l).tm).pr, .int .i64 ((l).tm).ppm, .int .i64 ((l).tm).stt, .int .i64 ((l).tm).ev, .int .i64 ((l).tm).ct, .int .i64 ((l).tm).ba, .int .i64 ((l).tm).mo, .int .i64 ((l).tm).pen, .int .i64 ((l).tm).fe, .string ((l).tm).cal, .string ((l).tm).cur, .slice da (l).ds.length dk, .slice ca (l).cs.length ck] 27)) w.heap.size _ 27 := Bk.Blk.nw10
 have HD := Lib.hid ((h.later cw1).row)
 clear h
 have l23 := k0.c23
 go_enter Tryz.func38, Tryz.ntmps38
 go_upto_region 3 with fail
 generalize (w.alloc (.cells _ 27)) = w1 at *
 go_loopg [6, 7, 8] n (SmR w1 l.ds n)
 case atStart => exact ⟨0, by omega, rfl, by rw [List.take_zero]; exact congrArg (Value.int .i64) (Ln.P_nil).symm, by rw [List.take_zero]; exact congrArg (Value.int .i64) Ln.I_nil.symm, rfl⟩
 case round =>
  obtain ⟨i, hi, rfl, rfl, rfl, rfl⟩ := hrel
  by_cases hlt : i < n
  ·obtain ⟨b, off, rfl, hc⟩ := HD.out.mid denc_len (by omega)
   have q2 : w1.cell? ⟨b, off + i * 4 + 2, none⟩ = some (.int .i64 (l.ds[i]!).pr) := hc i (by omega) 2 _ rfl
   have q3 : w1.cell? ⟨b, off + i * 4 + 3, none⟩ = some (.int .i64 (l.ds[i]!).it) := hc i (by omega) 3 _ rfl
   have HS := Lib.hid (P_succ (ds := l.ds) (i := i) (by omega))
   have HT := Lib.hid (I_succ (ds := l.ds) (i := i) (by omega))
   clear hc
   generalize P (l.ds.take i) = s at *
   generalize I (l.ds.take i) = t at *
   generalize (l.ds[i]!).pr = x at *
   generalize (l.ds[i]!).it = y at *
   go_wp2_with fail
   go_roundg (gk - 1)
   case measure => omega
   case rel => exact ⟨i + 1, by omega, by go_num, by rw [HS.out], by rw [HT.out], rfl⟩
  ·have hin : i = n := by omega
   have HP := Lib.hid (show P (l.ds.take i) = P (l.ds.take n) by rw [hin])
   have HI := Lib.hid (show I (l.ds.take i) = I (l.ds.take n) by rw [hin])
   clear hin
   generalize P (l.ds.take i) = s at *
   generalize I (l.ds.take i) = t at *
   go_wp2_with fail
   go_ret2
   exact ⟨by rw [← HP.out, ← HI.out]; rfl, cw1⟩
theorem rdv_y (d : Int) (w : World) (h : 0 ≤ d ∧ d ≤ 73048) : Calls Tryz.prog 57 #[.int .i64 d] w fun e w' => e = .returned (.bool true) ∧ Below w.heap.size w w' := (Ln.rvalid_any d w).mono fun e w' ⟨he, hw⟩ => ⟨he.trans (by rw [show Ln.dayB d = true by simp [Ln.dayB]; omega]), by rw [← hw]; exact Below.refl _ _⟩
theorem rdv_n (d : Int) (w : World) (h : ¬ (0 ≤ d ∧ d ≤ 73048)) : Calls Tryz.prog 57 #[.int .i64 d] w fun e w' => e = .returned (.bool false) ∧ Below w.heap.size w w' := (Ln.rvalid_any d w).mono fun e w' ⟨he, hw⟩ => ⟨he.trans (by rw [show Ln.dayB d = false by simp [Ln.dayB]; omega]), by rw [← hw]; exact Below.refl _ _⟩
def usE (l : Lo) (day : Int) : Int := if ¬ (chk l = 0 ∧ 0 ≤ day ∧ day ≤ 73048) then 1 else if l.st ≠ 1 then 17 else 0
set_option maxHeartbeats 4000000 in
theorem usable_any (l : Lo) (da ca : Option Addr) (dk ck : Nat) (day : Int) (w : World) (h : DuesIn w da l.ds) (hk : Dok l.ds) : Calls Tryz.prog 23 #[(.agg #[.int .i64 (l).id, .int .i64 (l).ac, .int .i64 (l).st, .int .i64 (l).pp, .int .i64 (l).pi, .int .i64 (l).fee, .int .i64 (l).pen, .int .i64 (l).chg, .int .i64 (l).prov, .int .i64 (l).loss, .int .i64 (l).rcv, .int .i64 ((l).tm).me, .int .i64 ((l).tm).pr, .int .i64 ((l).tm).ppm, .int .i64 ((l).tm).stt, .int .i64 ((l).tm).ev, .int .i64 ((l).tm).ct, .int .i64 ((l).tm).ba, .int .i64 ((l).tm).mo, .int .i64 ((l).tm).pen, .int .i64 ((l).tm).fe, .string ((l).tm).cal, .string ((l).tm).cur, .slice da (l).ds.length dk, .slice ca (l).cs.length ck]), .int .i64 day] w fun e w' => e = .returned (.int .i64 (usE l day)) ∧ Below w.heap.size w w' := by
 have cw1 : Below w.heap.size w (w.alloc (.cells #[.int .i64 (l).id, .int .i64 (l).ac, .int .i64 (l).st, .int .i64 (l).pp, .int .i64 (l).pi, .int .i64 (l).fee, .int .i64 (l).pen, .int .i64 (l).chg, .int .i64 (l).prov, .int .i64 (l).loss, .int .i64 (l).rcv, .int .i64 ((l).tm).me, .int .i64 ((l).tm).pr, .int .i64 ((l).tm).ppm, .int .i64 ((l).tm).stt, .int .i64 ((l).tm).ev, .int .i64 ((l).tm).ct, .int .i64 ((l).tm).ba, .int .i64 ((l).tm).mo, .int .i64 ((l).tm).pen, .int .i64 ((l).tm).fe, .string ((l).tm).cal, .string ((l).tm).cur, .slice da (l).ds.length dk, .slice ca (l).cs.length ck] 27)) := (Below.refl _ _).alloc (Nat.le_refl _) _
 have k0 : Bk.Blk (w.alloc (.cells #[.int .i64 (l).id, .int .i64 (l).ac, .int .i64 (l).st, .int .i64 (l).pp, .int .i64 (l).pi, .int .i64 (l).fee, .int .i64 (l).pen, .int .i64 (l).chg, .int .i64 (l).prov, .int .i64 (l).loss, .int .i64 (l).rcv, .int .i64 ((l).tm).me, .int .i64 ((l).tm).pr, .int .i64 ((l).tm).ppm, .int .i64 ((l).tm).stt, .int .i64 ((l).tm).ev, .int .i64 ((l).tm).ct, .int .i64 ((l).tm).ba, .int .i64 ((l).tm).mo, .int .i64 ((l).tm).pen, .int .i64 ((l).tm).fe, .string ((l).tm).cal, .string ((l).tm).cur, .slice da (l).ds.length dk, .slice ca (l).cs.length ck] 27)) w.heap.size _ 27 := Bk.Blk.nw10
 have HD := Lib.hid (fun W (hW : Below w.heap.size w W) => h.later hW)
 clear h
 go_enter Tryz.func23, Tryz.ntmps23
 go_upto_region 1 with fail
 generalize (w.alloc (.cells _ 27)) = w1 at *
 go_wp2_with (first | (refine wpList_load_row rfl 27 _ rfl _ rfl _ _ _ _ k0 Tryz.underlying27 rfl (by kernel_rfl) ?_) | (refine load_guarded 27 _ rfl rfl _ rfl _ _ _ _ k0 Tryz.underlying27 rfl (by kernel_rfl) ?_))
 refine (Ln.rcheck_any l da ca dk ck _ (HD.out _ cw1) hk).mono ?_
 rintro e w2 ⟨rfl, hb⟩
 have cw2 := bl2 hb cw1
 replace k0 := k0.later hb
 clear hb cw1
 by_cases hc : chk l = 0
 ·have HC0 := Lib.hid hc
  have g1 : (chk l != 0) = false := by rw [hc]; rfl
  clear hc
  generalize chk l = E at g1 ⊢
  go_wp2_with fail
  by_cases hd : 0 ≤ day ∧ day ≤ 73048
  ·refine (rdv_y day _ hd).mono ?_
   rintro e w3 ⟨rfl, hb⟩
   have cw3 := bl2 hb cw2
   replace k0 := k0.later hb
   clear hb cw2
   have l2 := k0.c2
   by_cases hs : l.st = 1
   ·have g2 : (l.st != 1) = false := by rw [hs]; rfl
    have HF := Lib.hid (show usE l day = 0 from (if_neg (fun e => e ⟨HC0.out, hd⟩)).trans (if_neg (fun e => e hs)))
    clear hs
    go_wp2_with fail
    go_ret
    exact ⟨by rw [HF.out]; rfl, cw3⟩
   ·have g2 : (l.st != 1) = true := by simpa using hs
    have HF := Lib.hid (show usE l day = 17 from (if_neg (fun e => e ⟨HC0.out, hd⟩)).trans (if_pos hs))
    clear hs
    go_wp2_with fail
    go_ret
    exact ⟨by rw [HF.out]; rfl, cw3⟩
  ·refine (rdv_n day _ hd).mono ?_
   rintro e w3 ⟨rfl, hb⟩
   have cw3 := bl2 hb cw2
   clear hb cw2
   have HF := Lib.hid (show usE l day = 1 from if_pos (fun e => hd e.2))
   go_wp2_with fail
   go_ret
   exact ⟨by rw [HF.out]; rfl, cw3⟩
 ·have g1 : (chk l != 0) = true := by simpa using hc
  have HF := Lib.hid (show usE l day = 1 from if_pos (fun e => hc e.1))
  clear hc
  generalize chk l = E at g1 ⊢
  go_wp2_with fail
  go_ret
  exact ⟨by rw [HF.out]; rfl, cw2⟩
set_option maxHeartbeats 4000000 in
theorem rfee35_any (l : Lo) (da ca : Option Addr) (dk ck : Nat) (a : Int) (w : World) (ha : Wm.I64 a) (hf : Wm.I64 l.tm.fe) : Calls Tryz.prog 9 #[(.agg #[.int .i64 (l).id, .int .i64 (l).ac, .int .i64 (l).st, .int .i64 (l).pp, .int .i64 (l).pi, .int .i64 (l).fee, .int .i64 (l).pen, .int .i64 (l).chg, .int .i64 (l).prov, .int .i64 (l).loss, .int .i64 (l).rcv, .int .i64 ((l).tm).me, .int .i64 ((l).tm).pr, .int .i64 ((l).tm).ppm, .int .i64 ((l).tm).stt, .int .i64 ((l).tm).ev, .int .i64 ((l).tm).ct, .int .i64 ((l).tm).ba, .int .i64 ((l).tm).mo, .int .i64 ((l).tm).pen, .int .i64 ((l).tm).fe, .string ((l).tm).cal, .string ((l).tm).cur, .slice da (l).ds.length dk, .slice ca (l).cs.length ck]), .int .i64 a] w fun e w' => e = .returned (.tuple #[.int .i64 (feV l a), .int .i64 (feE l a)]) ∧ Below w.heap.size w w' := by
 have cw1 : Below w.heap.size w (w.alloc (.cells #[.int .i64 (l).id, .int .i64 (l).ac, .int .i64 (l).st, .int .i64 (l).pp, .int .i64 (l).pi, .int .i64 (l).fee, .int .i64 (l).pen, .int .i64 (l).chg, .int .i64 (l).prov, .int .i64 (l).loss, .int .i64 (l).rcv, .int .i64 ((l).tm).me, .int .i64 ((l).tm).pr, .int .i64 ((l).tm).ppm, .int .i64 ((l).tm).stt, .int .i64 ((l).tm).ev, .int .i64 ((l).tm).ct, .int .i64 ((l).tm).ba, .int .i64 ((l).tm).mo, .int .i64 ((l).tm).pen, .int .i64 ((l).tm).fe, .string ((l).tm).cal, .string ((l).tm).cur, .slice da (l).ds.length dk, .slice ca (l).cs.length ck] 27)) := (Below.refl _ _).alloc (Nat.le_refl _) _
 have k0 : Bk.Blk (w.alloc (.cells #[.int .i64 (l).id, .int .i64 (l).ac, .int .i64 (l).st, .int .i64 (l).pp, .int .i64 (l).pi, .int .i64 (l).fee, .int .i64 (l).pen, .int .i64 (l).chg, .int .i64 (l).prov, .int .i64 (l).loss, .int .i64 (l).rcv, .int .i64 ((l).tm).me, .int .i64 ((l).tm).pr, .int .i64 ((l).tm).ppm, .int .i64 ((l).tm).stt, .int .i64 ((l).tm).ev, .int .i64 ((l).tm).ct, .int .i64 ((l).tm).ba, .int .i64 ((l).tm).mo, .int .i64 ((l).tm).pen, .int .i64 ((l).tm).fe, .string ((l).tm).cal, .string ((l).tm).cur, .slice da (l).ds.length dk, .slice ca (l).cs.length ck] 27)) w.heap.size _ 27 := Bk.Blk.nw10
 have hv1 := Lib.hid (fun h : a < 0 => (show feV l a = 0 from if_pos h))
 have he1 := Lib.hid (fun h : a < 0 => (show feE l a = 1 from if_pos h))
 have hv2 := Lib.hid (fun h : ¬ a < 0 => (show feV l a = pcV a l.tm.fe 6 from if_neg h))
 have he2 := Lib.hid (fun h : ¬ a < 0 => (show feE l a = pcE a l.tm.fe 6 from if_neg h))
 have l20 := k0.c20
 go_enter Tryz.func9, Tryz.ntmps9
 go_upto_region 1 with fail
 generalize (w.alloc (.cells _ 27)) = w1 at *
 by_cases h0 : a < 0
 ·go_wp2_with fail
  go_ret2
  exact ⟨by rw [hv1.out h0, he1.out h0]; try rfl, cw1⟩
 ·go_wp2_with fail
  refine (Rd.rpercent_any a l.tm.fe 6 _ ha hf).mono ?_
  rintro e w2 ⟨rfl, hb⟩
  have cw2 := bl2 hb cw1
  have e1 := Lib.hid (hv2.out h0)
  have e2 := Lib.hid (he2.out h0)
  clear hv1 he1 hv2 he2
  generalize pcV a l.tm.fe 6 = v at e1 ⊢
  generalize pcE a l.tm.fe 6 = c at e2 ⊢
  clear l20
  go_wp2_with fail
  go_ret2
  exact ⟨by rw [e1.out, e2.out]; try rfl, cw2⟩
theorem rgd_any (n : Int) (w : World) : Calls Tryz.prog 25 #[.int .i64 n] w fun e w' => e = .returned (.bool (decide (gd n))) ∧ Below w.heap.size w w' := by
 by_cases h : gd n
 ·rw [decide_eq_true h]
  exact (Rd.rgood_yes n w h).mono fun e w' ⟨he, hw⟩ => ⟨he, by rw [← hw]; exact Below.refl _ _⟩
 ·rw [decide_eq_false h]
  exact (Rd.rgood_no n w h).mono fun e w' ⟨he, hw⟩ => ⟨he, by rw [← hw]; exact Below.refl _ _⟩
theorem us_parts {l : Lo} {day : Int} (h : usE l day = 0) : (chk l = 0 ∧ 0 ≤ day ∧ day ≤ 73048) ∧ l.st = 1 := by
 unfold usE at h
 split at h
 ·cases h
 ·rename_i h1
  split at h
  ·cases h
  ·rename_i h2
   exact ⟨Classical.byContradiction h1, Classical.byContradiction h2⟩
def putL (ps : List Pa) (kd am : Int) : List Pa := ps ++ if am = 0 then [] else [⟨kd, am⟩]
set_option maxHeartbeats 4000000 in
theorem put_any (a : Option Addr) (c : Nat) (ps : List Pa) (kd am : Int) (w : World) (h : RowIn penc w a ps) (hn : ps.length ≤ 1000) : Calls Tryz.prog 36 #[.slice a ps.length c, .int .i64 kd, .int .i64 am] w fun e w' => ∃ g c', e = .returned (.slice (some ⟨g, 0, none⟩) (putL ps kd am).length c') ∧ RowIn penc w' (some ⟨g, 0, none⟩) (putL ps kd am) ∧ w.heap.size ≤ g ∧ g < w'.heap.size ∧ Below w.heap.size w w' := by
 have hb0 : Below w.heap.size w (w.alloc (.cells #[] 65)) := (Below.refl _ _).alloc (Nat.le_refl _) _
 have hr0 := h.later hb0
 have hv0 : GV penc 2 65 (w.alloc (.cells #[] 65)) w.heap.size (.slice (some ⟨w.heap.size, 0, none⟩) 0 0) [] := gv_made w (Nat.le_refl _)
 have hz0 : w.heap.size ≤ (w.alloc (.cells #[] 65)).heap.size := Below.size hb0
 clear h
 go_enter Tryz.func36, Tryz.ntmps36
 go_upto_region 2 with (at_builtin; refine wpList_plain rfl fun K hK => parts_wp (B := w.heap.size) ps rfl _ _ rfl rfl hv0 _ _ rfl hr0 (by simp; omega) hz0 ?_; intro g' c' w' hv' hb' _; refine hK _ _ ?_)
 rw [List.nil_append] at hv'
 have c1 := Below.trans hb0 hb'
 clear hb' hr0 hv0 hz0 hb0
 by_cases h0 : am = 0
 ·have HP := Lib.hid (show putL ps kd am = ps by unfold putL; rw [if_pos h0, List.append_nil])
  have g0 : (am != 0) = false := by rw [h0]; rfl
  clear h0
  go_wp2_with fail
  go_ret
  obtain ⟨_, _, he, hr, hf⟩ := hv'.row
  obtain ⟨rfl, rfl⟩ := by simpa using he
  exact ⟨g', c', by rw [HP.out]; rfl, by rw [HP.out]; exact hr, hf _ rfl, (hv'.lt _ rfl).1, c1⟩
 ·have HP := Lib.hid (show putL ps kd am = ps ++ [⟨kd, am⟩] by unfold putL; rw [if_neg h0])
  have g0 : (am != 0) = true := by simpa using h0
  clear h0
  have hb1 : Below w'.heap.size w' (w'.alloc (.cells #[.int .i64 kd, .int .i64 am] 65)) := (Below.refl _ _).alloc (Nat.le_refl _) _
  have hv1 := hv'.later hb1
  have hr1 : RowIn penc (w'.alloc (.cells #[.int .i64 kd, .int .i64 am] 65)) (some ⟨w'.heap.size, 0, none⟩) [(⟨kd, am⟩ : Pa)] := row_of_blk (xs := [(⟨kd, am⟩ : Pa)]) Bk.Blk.nw10
  have c2 := bl2 hb1 c1
  have hz1 : w.heap.size ≤ (w'.alloc (.cells #[.int .i64 kd, .int .i64 am] 65)).heap.size := Below.size c2
  clear hv' hb1 c1
  go_wp2_with (at_builtin; refine wpList_plain rfl fun K hK => parts_wp (B := w.heap.size) [(⟨kd, am⟩ : Pa)] rfl _ _ rfl rfl hv1 _ _ rfl hr1 (by simp; omega) hz1 ?_; intro g2 c2' w2 hv2 hb2 _; refine hK _ _ ?_)
  have c3 := Below.trans c2 hb2
  obtain ⟨_, _, he, hr, hf⟩ := hv2.row
  obtain ⟨rfl, rfl⟩ := by simpa using he
  go_ret
  exact ⟨g2, c2', by rw [HP.out]; first | rfl | (simp; done), by rw [HP.out]; exact hr, hf _ rfl, (hv2.lt _ rfl).1, c3⟩
end Go.Proofs.YtaanicginfjgdaaGreatDoor.Pp
