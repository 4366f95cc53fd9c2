/-
  LoanChecks: its walk.
-/
import Derived.Test.YtaibocobeibobaaLw1
import Derived.Test.YtaibocobeibobaaHp
namespace Go.Proofs.Ytaibocobeibobaa.Ln
open Go.RowKit
open Go.Proofs.Ytaibocobeibobaa
set_option linter.unusedSimpArgs false

theorem owed_pv {l : Lo} {on : Int} (hn : l.ds.length ≤ 100000) (da ca : Option Addr) (dk ck : Nat) (w : World) (h : LoIn w l da ca) :
    Calls Try.prog 13 #[(.agg #[.int .i64 (l).id, .int .i64 (l).ac, .int .i64 (l).st, .int .i64 (l).pp, .int .i64 (l).pi, .int .i64 (l).fee, .int .i64 (l).pen, .int .i64 (l).chg, .int .i64 (l).prov, .int .i64 (l).loss, .int .i64 (l).rcv, .int .i64 ((l).tm).me, .int .i64 ((l).tm).pr, .int .i64 ((l).tm).ppm, .int .i64 ((l).tm).stt, .int .i64 ((l).tm).ev, .int .i64 ((l).tm).ct, .int .i64 ((l).tm).ba, .int .i64 ((l).tm).mo, .int .i64 ((l).tm).pen, .int .i64 ((l).tm).fe, .string ((l).tm).cal, .string ((l).tm).cur, .slice da (l).ds.length dk, .slice ca (l).cs.length ck]), .int .i64 on] w fun e w' => ∃ v, e = .returned v ∧ PartsV (powed l on) v w' ∧ Below w.heap.size w w' :=
  (owed_any l da ca dk ck on w (dues_of_row (by omega) h.d) hn).mono fun _ _ ⟨g, he, _, hr, hb⟩ => ⟨_, he, ⟨_, _, rfl, hr⟩, hb⟩
theorem rowed_pv {l : Lo} {on : Int} (hn : l.ds.length ≤ 100000) (da ca : Option Addr) (dk ck : Nat) (w : World) (h : LoIn w l da ca) :
    Calls Try.prog 14 #[(.agg #[.int .i64 (l).id, .int .i64 (l).ac, .int .i64 (l).st, .int .i64 (l).pp, .int .i64 (l).pi, .int .i64 (l).fee, .int .i64 (l).pen, .int .i64 (l).chg, .int .i64 (l).prov, .int .i64 (l).loss, .int .i64 (l).rcv, .int .i64 ((l).tm).me, .int .i64 ((l).tm).pr, .int .i64 ((l).tm).ppm, .int .i64 ((l).tm).stt, .int .i64 ((l).tm).ev, .int .i64 ((l).tm).ct, .int .i64 ((l).tm).ba, .int .i64 ((l).tm).mo, .int .i64 ((l).tm).pen, .int .i64 ((l).tm).fe, .string ((l).tm).cal, .string ((l).tm).cur, .slice da (l).ds.length dk, .slice ca (l).cs.length ck]), .int .i64 on] w fun e w' => ∃ v, e = .returned v ∧ PartsV (powed l on) v w' ∧ Below w.heap.size w w' :=
  (rowed_any l da ca dk ck on w (dues_of_row (by omega) h.d)).mono fun _ _ ⟨a, c, he, hr, _, hb⟩ => ⟨_, he, ⟨_, _, rfl, hr⟩, hb⟩
set_option maxRecDepth 100000 in
set_option maxHeartbeats 8000000 in
theorem checks_walk (l : Lo) (da ca : Option Addr) (dk ck : Nat) (on : Int) (_ : (Lit.int .i64 on).wf = true) (w : World) (h : LoIn w l da ca) (hd : Dok l.ds) :
    Calls Try.prog 3 #[(.agg #[.int .i64 (l).id, .int .i64 (l).ac, .int .i64 (l).st, .int .i64 (l).pp, .int .i64 (l).pi, .int .i64 (l).fee, .int .i64 (l).pen, .int .i64 (l).chg, .int .i64 (l).prov, .int .i64 (l).loss, .int .i64 (l).rcv, .int .i64 ((l).tm).me, .int .i64 ((l).tm).pr, .int .i64 ((l).tm).ppm, .int .i64 ((l).tm).stt, .int .i64 ((l).tm).ev, .int .i64 ((l).tm).ct, .int .i64 ((l).tm).ba, .int .i64 ((l).tm).mo, .int .i64 ((l).tm).pen, .int .i64 ((l).tm).fe, .string ((l).tm).cal, .string ((l).tm).cur, .slice da (l).ds.length dk, .slice ca (l).cs.length ck]), .int .i64 on] w fun e w' => e = .returned (.bool true) ∧ Below w.heap.size w w' := by
  have HH := Lib.hid h
  have HD := Lib.hid hd
  have HG := Lib.hid (great_any l da ca dk ck)
  have HGL := Lib.hid (great_len (l := l))
  clear h hd
  generalize greatB l = gb at *
  go_enter Try.func3, Try.ntmps3
  go_wp2_with (refine wpList_load_row rfl 27 _ rfl _ rfl _ _ _ _ (Bk.Blk.nw10) Try.underlying27 rfl (by kernel_rfl) ?_)
  have cw : Below w.heap.size w (w.alloc (.cells #[.int .i64 (l).id, .int .i64 (l).ac, .int .i64 (l).st, .int .i64 (l).pp, .int .i64 (l).pi, .int .i64 (l).fee, .int .i64 (l).pen, .int .i64 (l).chg, .int .i64 (l).prov, .int .i64 (l).loss, .int .i64 (l).rcv, .int .i64 ((l).tm).me, .int .i64 ((l).tm).pr, .int .i64 ((l).tm).ppm, .int .i64 ((l).tm).stt, .int .i64 ((l).tm).ev, .int .i64 ((l).tm).ct, .int .i64 ((l).tm).ba, .int .i64 ((l).tm).mo, .int .i64 ((l).tm).pen, .int .i64 ((l).tm).fe, .string ((l).tm).cal, .string ((l).tm).cur, .slice da (l).ds.length dk, .slice ca (l).cs.length ck] 27)) := (Below.refl _ _).alloc (Nat.le_refl _) _
  refine (HG.out _).mono ?_
  rintro e w1 ⟨rfl, hb⟩
  have k0 := Bk.Blk.later (g := w.heap.size) hb (Bk.Blk.nw10 (W := w) (cs := #[.int .i64 (l).id, .int .i64 (l).ac, .int .i64 (l).st, .int .i64 (l).pp, .int .i64 (l).pi, .int .i64 (l).fee, .int .i64 (l).pen, .int .i64 (l).chg, .int .i64 (l).prov, .int .i64 (l).loss, .int .i64 (l).rcv, .int .i64 ((l).tm).me, .int .i64 ((l).tm).pr, .int .i64 ((l).tm).ppm, .int .i64 ((l).tm).stt, .int .i64 ((l).tm).ev, .int .i64 ((l).tm).ct, .int .i64 ((l).tm).ba, .int .i64 ((l).tm).mo, .int .i64 ((l).tm).pen, .int .i64 ((l).tm).fe, .string ((l).tm).cal, .string ((l).tm).cur, .slice da (l).ds.length dk, .slice ca (l).cs.length ck]) (t := 27))
  have cw1 := bl2 hb cw
  clear hb cw HG
  cases gb
  · have hlen := HGL.out rfl
    have hn : l.ds.length ≤ 100000 := by omega
    clear hlen HGL
    have hl := HH.out.later cw1
    have HL := Lib.hid (fun (W : World) (hW : SQ w1 w.heap.size #[.int .i64 (l).id, .int .i64 (l).ac, .int .i64 (l).st, .int .i64 (l).pp, .int .i64 (l).pi, .int .i64 (l).fee, .int .i64 (l).pen, .int .i64 (l).chg, .int .i64 (l).prov, .int .i64 (l).loss, .int .i64 (l).rcv, .int .i64 ((l).tm).me, .int .i64 ((l).tm).pr, .int .i64 ((l).tm).ppm, .int .i64 ((l).tm).stt, .int .i64 ((l).tm).ev, .int .i64 ((l).tm).ct, .int .i64 ((l).tm).ba, .int .i64 ((l).tm).mo, .int .i64 ((l).tm).pen, .int .i64 ((l).tm).fe, .string ((l).tm).cal, .string ((l).tm).cur, .slice da (l).ds.length dk, .slice ca (l).cs.length ck] 27 W) => hl.later hW.2)
    have C1 := Lib.hid (fun (W : World) (hW : SQ w1 w.heap.size #[.int .i64 (l).id, .int .i64 (l).ac, .int .i64 (l).st, .int .i64 (l).pp, .int .i64 (l).pi, .int .i64 (l).fee, .int .i64 (l).pen, .int .i64 (l).chg, .int .i64 (l).prov, .int .i64 (l).loss, .int .i64 (l).rcv, .int .i64 ((l).tm).me, .int .i64 ((l).tm).pr, .int .i64 ((l).tm).ppm, .int .i64 ((l).tm).stt, .int .i64 ((l).tm).ev, .int .i64 ((l).tm).ct, .int .i64 ((l).tm).ba, .int .i64 ((l).tm).mo, .int .i64 ((l).tm).pen, .int .i64 ((l).tm).fe, .string ((l).tm).cal, .string ((l).tm).cur, .slice da (l).ds.length dk, .slice ca (l).cs.length ck] 27 W) => check_any l da ca dk ck W (dues_of_row (by omega) (HL.out W hW).d))
    have C2 := Lib.hid (fun (W : World) (hW : SQ w1 w.heap.size #[.int .i64 (l).id, .int .i64 (l).ac, .int .i64 (l).st, .int .i64 (l).pp, .int .i64 (l).pi, .int .i64 (l).fee, .int .i64 (l).pen, .int .i64 (l).chg, .int .i64 (l).prov, .int .i64 (l).loss, .int .i64 (l).rcv, .int .i64 ((l).tm).me, .int .i64 ((l).tm).pr, .int .i64 ((l).tm).ppm, .int .i64 ((l).tm).stt, .int .i64 ((l).tm).ev, .int .i64 ((l).tm).ct, .int .i64 ((l).tm).ba, .int .i64 ((l).tm).mo, .int .i64 ((l).tm).pen, .int .i64 ((l).tm).fe, .string ((l).tm).cal, .string ((l).tm).cur, .slice da (l).ds.length dk, .slice ca (l).cs.length ck] 27 W) => rcheck_any l da ca dk ck W (dues_of_row (by omega) (HL.out W hW).d) HD.out)
    have C3 := Lib.hid (fun (W : World) (hW : SQ w1 w.heap.size #[.int .i64 (l).id, .int .i64 (l).ac, .int .i64 (l).st, .int .i64 (l).pp, .int .i64 (l).pi, .int .i64 (l).fee, .int .i64 (l).pen, .int .i64 (l).chg, .int .i64 (l).prov, .int .i64 (l).loss, .int .i64 (l).rcv, .int .i64 ((l).tm).me, .int .i64 ((l).tm).pr, .int .i64 ((l).tm).ppm, .int .i64 ((l).tm).stt, .int .i64 ((l).tm).ev, .int .i64 ((l).tm).ct, .int .i64 ((l).tm).ba, .int .i64 ((l).tm).mo, .int .i64 ((l).tm).pen, .int .i64 ((l).tm).fe, .string ((l).tm).cal, .string ((l).tm).cur, .slice da (l).ds.length dk, .slice ca (l).cs.length ck] 27 W) => out_any l da ca dk ck W (dues_of_row (by omega) (HL.out W hW).d))
    have C4 := Lib.hid (fun (W : World) (hW : SQ w1 w.heap.size #[.int .i64 (l).id, .int .i64 (l).ac, .int .i64 (l).st, .int .i64 (l).pp, .int .i64 (l).pi, .int .i64 (l).fee, .int .i64 (l).pen, .int .i64 (l).chg, .int .i64 (l).prov, .int .i64 (l).loss, .int .i64 (l).rcv, .int .i64 ((l).tm).me, .int .i64 ((l).tm).pr, .int .i64 ((l).tm).ppm, .int .i64 ((l).tm).stt, .int .i64 ((l).tm).ev, .int .i64 ((l).tm).ct, .int .i64 ((l).tm).ba, .int .i64 ((l).tm).mo, .int .i64 ((l).tm).pen, .int .i64 ((l).tm).fe, .string ((l).tm).cal, .string ((l).tm).cur, .slice da (l).ds.length dk, .slice ca (l).cs.length ck] 27 W) => rout_any l da ca dk ck W (dues_of_row (by omega) (HL.out W hW).d) HD.out)
    have C5 := Lib.hid (fun (W : World) (hW : SQ w1 w.heap.size #[.int .i64 (l).id, .int .i64 (l).ac, .int .i64 (l).st, .int .i64 (l).pp, .int .i64 (l).pi, .int .i64 (l).fee, .int .i64 (l).pen, .int .i64 (l).chg, .int .i64 (l).prov, .int .i64 (l).loss, .int .i64 (l).rcv, .int .i64 ((l).tm).me, .int .i64 ((l).tm).pr, .int .i64 ((l).tm).ppm, .int .i64 ((l).tm).stt, .int .i64 ((l).tm).ev, .int .i64 ((l).tm).ct, .int .i64 ((l).tm).ba, .int .i64 ((l).tm).mo, .int .i64 ((l).tm).pen, .int .i64 ((l).tm).fe, .string ((l).tm).cal, .string ((l).tm).cur, .slice da (l).ds.length dk, .slice ca (l).cs.length ck] 27 W) => owed_pv (on := on) hn da ca dk ck W (HL.out W hW))
    have C6 := Lib.hid (fun (W : World) (hW : SQ w1 w.heap.size #[.int .i64 (l).id, .int .i64 (l).ac, .int .i64 (l).st, .int .i64 (l).pp, .int .i64 (l).pi, .int .i64 (l).fee, .int .i64 (l).pen, .int .i64 (l).chg, .int .i64 (l).prov, .int .i64 (l).loss, .int .i64 (l).rcv, .int .i64 ((l).tm).me, .int .i64 ((l).tm).pr, .int .i64 ((l).tm).ppm, .int .i64 ((l).tm).stt, .int .i64 ((l).tm).ev, .int .i64 ((l).tm).ct, .int .i64 ((l).tm).ba, .int .i64 ((l).tm).mo, .int .i64 ((l).tm).pen, .int .i64 ((l).tm).fe, .string ((l).tm).cal, .string ((l).tm).cur, .slice da (l).ds.length dk, .slice ca (l).cs.length ck] 27 W) => rowed_pv (on := on) hn da ca dk ck W (HL.out W hW))
    have HPO := Lib.hid (show (powed l on).length ≤ 100000 from Nat.le_trans (pparts_len _) (by simp))
    generalize powed l on = ps at *
    generalize chk l = ch at *
    generalize wrap64 (P l.ds - l.pp) = ou at *
    clear hn hl
    have q1 : (ch == ch) = true := beq_self_eq_true ch
    have q2 : (ou == ou) = true := beq_self_eq_true ou
    go_upto_region 3 with fail
    have hS0 : SQ w1 w.heap.size #[.int .i64 (l).id, .int .i64 (l).ac, .int .i64 (l).st, .int .i64 (l).pp, .int .i64 (l).pi, .int .i64 (l).fee, .int .i64 (l).pen, .int .i64 (l).chg, .int .i64 (l).prov, .int .i64 (l).loss, .int .i64 (l).rcv, .int .i64 ((l).tm).me, .int .i64 ((l).tm).pr, .int .i64 ((l).tm).ppm, .int .i64 ((l).tm).stt, .int .i64 ((l).tm).ev, .int .i64 ((l).tm).ct, .int .i64 ((l).tm).ba, .int .i64 ((l).tm).mo, .int .i64 ((l).tm).pen, .int .i64 ((l).tm).fe, .string ((l).tm).cal, .string ((l).tm).cur, .slice da (l).ds.length dk, .slice ca (l).cs.length ck] 27 w1.drew := ⟨k0.drew, (Below.refl _ _).drew⟩
    refine wp_region_held_drew (S := SQ w1 w.heap.size #[.int .i64 (l).id, .int .i64 (l).ac, .int .i64 (l).st, .int .i64 (l).pp, .int .i64 (l).pi, .int .i64 (l).fee, .int .i64 (l).pen, .int .i64 (l).chg, .int .i64 (l).prov, .int .i64 (l).loss, .int .i64 (l).rcv, .int .i64 ((l).tm).me, .int .i64 ((l).tm).pr, .int .i64 ((l).tm).ppm, .int .i64 ((l).tm).stt, .int .i64 ((l).tm).ev, .int .i64 ((l).tm).ct, .int .i64 ((l).tm).ba, .int .i64 ((l).tm).mo, .int .i64 ((l).tm).pen, .int .i64 ((l).tm).fe, .string ((l).tm).cal, .string ((l).tm).cur, .slice da (l).ds.length dk, .slice ca (l).cs.length ck] 27) (by kernel_rfl) hS0 (fun hS => ?_)
    clear hS0 k0
    refine take_at 0 (by decide) (by kernel_rfl) (by kernel_rfl) (by kernel_rfl) (fun _ _ _ h => h) hS (yields_load_row (by rfl) 27 (.tmp 2) rfl w.heap.size rfl _ _ _ _ (fun W hW => hW.1) Try.underlying27 rfl (by kernel_rfl)) ?_
    simp only [List.getElem_cons_zero, List.getElem_cons_succ, Act.put, List.setIfInBounds_toArray, List.set_cons_zero, List.set_cons_succ]
    refine take_at 2 (by decide) (by kernel_rfl) (by kernel_rfl) (by kernel_rfl) (fun _ _ _ h => h) hS (yields_load_row (by rfl) 27 (.tmp 2) rfl w.heap.size rfl _ _ _ _ (fun W hW => hW.1) Try.underlying27 rfl (by kernel_rfl)) ?_
    simp only [List.getElem_cons_zero, List.getElem_cons_succ, Act.put, List.setIfInBounds_toArray, List.set_cons_zero, List.set_cons_succ]
    refine call_at 1 (by decide) (Pi := (fun v _ => v = .int .i64 ch)) (by kernel_rfl) (by rfl) (by simp only [List.getElem_cons_zero, List.getElem_cons_succ]; go_simp; first | done | rfl | exact ⟨rfl, rfl⟩) (call_one SQ.mono hS (C1.out _ hS)) ?_
    clear hS
    rintro w2 u hS rfl
    simp only [List.getElem_cons_zero, List.getElem_cons_succ, Act.put, List.setIfInBounds_toArray, List.set_cons_zero, List.set_cons_succ]
    refine call_at 3 (by decide) (Pi := (fun v _ => v = .int .i64 ch)) (by kernel_rfl) (by rfl) (by simp only [List.getElem_cons_zero, List.getElem_cons_succ]; go_simp; first | done | rfl | exact ⟨rfl, rfl⟩) (call_one SQ.mono hS (C2.out _ hS)) ?_
    clear hS
    rintro w3 u hS rfl
    simp only [List.getElem_cons_zero, List.getElem_cons_succ, Act.put, List.setIfInBounds_toArray, List.set_cons_zero, List.set_cons_succ]
    refine take_at 4 (by decide) (v := ?_) (by kernel_rfl) (by kernel_rfl) (by kernel_rfl) (fun _ _ _ h => h) hS (Or.inl ⟨by rfl, ?_⟩) ?_
    rotate_left
    · intro W hW
      skip
      clear hW
      simp only [List.getElem_cons_zero, List.getElem_cons_succ]
      go_simp
      first | done | with_reducible rfl
    simp only [List.getElem_cons_zero, List.getElem_cons_succ, Act.put, List.setIfInBounds_toArray, List.set_cons_zero, List.set_cons_succ]
    refine take_at 5 (by decide) (v := ?_) (by kernel_rfl) (by kernel_rfl) (by kernel_rfl) (fun _ _ _ h => h) hS (Or.inl ⟨by rfl, ?_⟩) ?_
    rotate_left
    · intro W hW
      skip
      clear hW
      simp only [List.getElem_cons_zero, List.getElem_cons_succ]
      go_simp
      first | done | with_reducible rfl
    simp only [List.getElem_cons_zero, List.getElem_cons_succ, Act.put, List.setIfInBounds_toArray, List.set_cons_zero, List.set_cons_succ]
    refine take_at 6 (by decide) (by kernel_rfl) (by kernel_rfl) (by kernel_rfl) (fun _ _ _ h => h) hS (yields_load_row (by rfl) 27 (.tmp 2) rfl w.heap.size rfl _ _ _ _ (fun W hW => hW.1) Try.underlying27 rfl (by kernel_rfl)) ?_
    simp only [List.getElem_cons_zero, List.getElem_cons_succ, Act.put, List.setIfInBounds_toArray, List.set_cons_zero, List.set_cons_succ]
    refine take_at 8 (by decide) (by kernel_rfl) (by kernel_rfl) (by kernel_rfl) (fun _ _ _ h => h) hS (yields_load_row (by rfl) 27 (.tmp 2) rfl w.heap.size rfl _ _ _ _ (fun W hW => hW.1) Try.underlying27 rfl (by kernel_rfl)) ?_
    simp only [List.getElem_cons_zero, List.getElem_cons_succ, Act.put, List.setIfInBounds_toArray, List.set_cons_zero, List.set_cons_succ]
    refine call_at 7 (by decide) (Pi := (fun v _ => v = .int .i64 ou)) (by kernel_rfl) (by rfl) (by simp only [List.getElem_cons_zero, List.getElem_cons_succ]; go_simp; first | done | rfl | exact ⟨rfl, rfl⟩) (call_one SQ.mono hS (C3.out _ hS)) ?_
    clear hS
    rintro w4 u hS rfl
    simp only [List.getElem_cons_zero, List.getElem_cons_succ, Act.put, List.setIfInBounds_toArray, List.set_cons_zero, List.set_cons_succ]
    refine call_at 9 (by decide) (Pi := (fun v _ => v = .int .i64 ou)) (by kernel_rfl) (by rfl) (by simp only [List.getElem_cons_zero, List.getElem_cons_succ]; go_simp; first | done | rfl | exact ⟨rfl, rfl⟩) (call_one SQ.mono hS (C4.out _ hS)) ?_
    clear hS
    rintro w5 u hS rfl
    simp only [List.getElem_cons_zero, List.getElem_cons_succ, Act.put, List.setIfInBounds_toArray, List.set_cons_zero, List.set_cons_succ]
    refine take_at 10 (by decide) (v := ?_) (by kernel_rfl) (by kernel_rfl) (by kernel_rfl) (fun _ _ _ h => h) hS (Or.inl ⟨by rfl, ?_⟩) ?_
    rotate_left
    · intro W hW
      skip
      clear hW
      simp only [List.getElem_cons_zero, List.getElem_cons_succ]
      go_simp
      first | done | with_reducible rfl
    simp only [List.getElem_cons_zero, List.getElem_cons_succ, Act.put, List.setIfInBounds_toArray, List.set_cons_zero, List.set_cons_succ]
    refine take_at 11 (by decide) (v := ?_) (by kernel_rfl) (by kernel_rfl) (by kernel_rfl) (fun _ _ _ h => h) hS (Or.inl ⟨by rfl, ?_⟩) ?_
    rotate_left
    · intro W hW
      skip
      clear hW
      simp only [List.getElem_cons_zero, List.getElem_cons_succ]
      go_simp
      first | done | with_reducible rfl
    simp only [List.getElem_cons_zero, List.getElem_cons_succ, Act.put, List.setIfInBounds_toArray, List.set_cons_zero, List.set_cons_succ]
    refine take_at 12 (by decide) (v := ?_) (by kernel_rfl) (by kernel_rfl) (by kernel_rfl) (fun _ _ _ h => h) hS (Or.inl ⟨by rfl, ?_⟩) ?_
    rotate_left
    · intro W hW
      skip
      clear hW
      simp only [List.getElem_cons_zero, List.getElem_cons_succ]
      go_simp
      first | done | with_reducible rfl
    simp only [List.getElem_cons_zero, List.getElem_cons_succ, Act.put, List.setIfInBounds_toArray, List.set_cons_zero, List.set_cons_succ]
    refine take_at 13 (by decide) (by kernel_rfl) (by kernel_rfl) (by kernel_rfl) (fun _ _ _ h => h) hS (yields_load_row (by rfl) 27 (.tmp 2) rfl w.heap.size rfl _ _ _ _ (fun W hW => hW.1) Try.underlying27 rfl (by kernel_rfl)) ?_
    simp only [List.getElem_cons_zero, List.getElem_cons_succ, Act.put, List.setIfInBounds_toArray, List.set_cons_zero, List.set_cons_succ]
    refine take_at 14 (by decide) (v := ?_) (by kernel_rfl) (by kernel_rfl) (by kernel_rfl) (fun _ _ _ h => h) hS (Or.inl ⟨by rfl, ?_⟩) ?_
    rotate_left
    · intro W hW
      skip
      clear hW
      simp only [List.getElem_cons_zero, List.getElem_cons_succ]
      go_simp
      first | done | with_reducible rfl
    simp only [List.getElem_cons_zero, List.getElem_cons_succ, Act.put, List.setIfInBounds_toArray, List.set_cons_zero, List.set_cons_succ]
    refine take_at 16 (by decide) (by kernel_rfl) (by kernel_rfl) (by kernel_rfl) (fun _ _ _ h => h) hS (yields_load_row (by rfl) 27 (.tmp 2) rfl w.heap.size rfl _ _ _ _ (fun W hW => hW.1) Try.underlying27 rfl (by kernel_rfl)) ?_
    simp only [List.getElem_cons_zero, List.getElem_cons_succ, Act.put, List.setIfInBounds_toArray, List.set_cons_zero, List.set_cons_succ]
    refine take_at 17 (by decide) (v := ?_) (by kernel_rfl) (by kernel_rfl) (by kernel_rfl) (fun _ _ _ h => h) hS (Or.inl ⟨by rfl, ?_⟩) ?_
    rotate_left
    · intro W hW
      skip
      clear hW
      simp only [List.getElem_cons_zero, List.getElem_cons_succ]
      go_simp
      first | done | with_reducible rfl
    simp only [List.getElem_cons_zero, List.getElem_cons_succ, Act.put, List.setIfInBounds_toArray, List.set_cons_zero, List.set_cons_succ]
    refine call_at 15 (by decide) (Pi := PartsV ps) (by kernel_rfl) (by rfl) (by simp only [List.getElem_cons_zero, List.getElem_cons_succ]; go_simp; first | done | rfl | exact ⟨rfl, rfl⟩) (call_pv SQ.mono hS (C5.out _ hS)) ?_
    clear hS
    rintro w6 u hS hu
    simp only [List.getElem_cons_zero, List.getElem_cons_succ, Act.put, List.setIfInBounds_toArray, List.set_cons_zero, List.set_cons_succ]
    refine call_at 18 (by decide) (Pi := fun v w' => PartsV ps v w' ∧ PartsV ps u w') (by kernel_rfl) (by rfl) (by simp only [List.getElem_cons_zero, List.getElem_cons_succ]; go_simp; first | done | rfl | exact ⟨rfl, rfl⟩) (call_pk SQ.mono PartsV.mono hS hu (C6.out _ hS)) ?_
    clear hS hu
    rintro w7 u2 hS ⟨⟨x2, y2, rfl, r2⟩, ⟨x1, y1, rfl, r1⟩⟩
    simp only [List.getElem_cons_zero, List.getElem_cons_succ, Act.put, List.setIfInBounds_toArray, List.set_cons_zero, List.set_cons_succ]
    refine call_at 19 (by decide) (Pi := (fun v _ => v = .bool true)) (by kernel_rfl) (by rfl) (by simp only [List.getElem_cons_zero, List.getElem_cons_succ]; go_simp; first | done | rfl | exact ⟨rfl, rfl⟩) (call_one SQ.mono hS (sameparts_any x1 x2 y1 y2 ps _ r1 r2 HPO.out)) ?_
    clear hS
    rintro w8 u hS rfl
    simp only [List.getElem_cons_zero, List.getElem_cons_succ, Act.put, List.setIfInBounds_toArray, List.set_cons_zero, List.set_cons_succ]
    clear r1 r2
    refine take_at 20 (by decide) (v := ?_) (by kernel_rfl) (by kernel_rfl) (by kernel_rfl) (fun _ _ _ h => h) hS (Or.inl ⟨by rfl, ?_⟩) ?_
    rotate_left
    · intro W hW
      skip
      clear hW
      simp only [List.getElem_cons_zero, List.getElem_cons_succ]
      go_simp
      first | done | with_reducible rfl
    simp only [List.getElem_cons_zero, List.getElem_cons_succ, Act.put, List.setIfInBounds_toArray, List.set_cons_zero, List.set_cons_succ]
    refine take_at 21 (by decide) (v := ?_) (by kernel_rfl) (by kernel_rfl) (by kernel_rfl) (fun _ _ _ h => h) hS (Or.inl ⟨by rfl, ?_⟩) ?_
    rotate_left
    · intro W hW
      skip
      clear hW
      simp only [List.getElem_cons_zero, List.getElem_cons_succ]
      go_simp
      first | done | with_reducible rfl
    simp only [List.getElem_cons_zero, List.getElem_cons_succ, Act.put, List.setIfInBounds_toArray, List.set_cons_zero, List.set_cons_succ]
    refine call_at 22 (by decide) (Pi := (fun v _ => v = .bool true)) (by kernel_rfl) (by rfl) (by simp only [List.getElem_cons_zero, List.getElem_cons_succ]; go_simp; first | done | rfl | exact ⟨rfl, rfl⟩) (call_one SQ.mono hS (live_any _)) ?_
    clear hS
    rintro w9 u hS rfl
    simp only [List.getElem_cons_zero, List.getElem_cons_succ, Act.put, List.setIfInBounds_toArray, List.set_cons_zero, List.set_cons_succ]
    refine take_at 23 (by decide) (v := ?_) (by kernel_rfl) (by kernel_rfl) (by kernel_rfl) (fun _ _ _ h => h) hS (Or.inl ⟨by rfl, ?_⟩) ?_
    rotate_left
    · intro W hW
      skip
      clear hW
      simp only [List.getElem_cons_zero, List.getElem_cons_succ]
      go_simp
      first | done | with_reducible rfl
    simp only [List.getElem_cons_zero, List.getElem_cons_succ, Act.put, List.setIfInBounds_toArray, List.set_cons_zero, List.set_cons_succ]
    refine take_at 24 (by decide) (v := ?_) (by kernel_rfl) (by kernel_rfl) (by kernel_rfl) (fun _ _ _ h => h) hS (Or.inl ⟨by rfl, ?_⟩) ?_
    rotate_left
    · intro W hW
      skip
      clear hW
      simp only [List.getElem_cons_zero, List.getElem_cons_succ]
      go_simp
      first | done | with_reducible rfl
    simp only [List.getElem_cons_zero, List.getElem_cons_succ, Act.put, List.setIfInBounds_toArray, List.set_cons_zero, List.set_cons_succ]
    refine wpAnyH_done (by kernel_rfl) ?_ _
    go_wp2_with fail
    go_ret
    exact ⟨rfl, bl2 hS.2 cw1⟩
  · go_wp2_with fail
    go_ret
    exact ⟨rfl, cw1⟩
end Go.Proofs.Ytaibocobeibobaa.Ln
