/-
  Arrears: Overdue of the program and of the reference; days.
-/
import Derived.Test.YtjmgahdjojdanaaDoorAm
import Derived.Test.YtjmgahdjojdanaaDoorLa
import Derived.Test.YtjmgahdjojdanaaDoorLb
import Derived.Deep.Cut
namespace Go.Proofs.YtjmgahdjojdanaaDoor.Ln
open Go.RowKit
open Go.Proofs.YtjmgahdjojdanaaDoor
set_option linter.unusedSimpArgs false

theorem aday_any (n : Int) (w : World) : Calls Tryd.prog 29 #[.int .i64 n] w fun e w' => e = .returned (.bool (dayB n)) ∧ w = w' := by
  unfold dayB
  by_cases h : 0 ≤ n
  · by_cases h2 : n ≤ 73048
    · rw [decide_eq_true ⟨h, h2⟩]
      go_enter Tryd.func29, Tryd.ntmps29
      go_wp2_with fail
      go_ret
      exact ⟨by simp, rfl⟩
    · rw [decide_eq_false (by omega)]
      go_enter Tryd.func29, Tryd.ntmps29
      go_wp2_with fail
      go_ret
      exact ⟨by simp, rfl⟩
  · rw [decide_eq_false (by omega)]
    go_enter Tryd.func29, Tryd.ntmps29
    go_wp2_with fail
    go_ret
    exact ⟨by simp, rfl⟩
/-- Where the loop of Overdue stands. -/
def odR (w : World) (l : Lo) (da ca : Option Addr) (dk ck : Nat) (on : Int) (g : Nat) (s5 s11 : Value) (W : World) : Prop := ∃ k : Nat, k + g = l.ds.length ∧ s11 = .int .i64 k ∧ s5 = .int .i64 (P (due (l.ds.take k) on)) ∧ Bk.Blk W w.heap.size #[.int .i64 (l).id, .int .i64 (l).ac, .int .i64 (l).st, .int .i64 (l).pp, .int .i64 (l).pi, .int .i64 (l).fee, .int .i64 (l).pen, .int .i64 (l).chg, .int .i64 (l).prov, .int .i64 (l).loss, .int .i64 (l).rcv, .int .i64 ((l).tm).me, .int .i64 ((l).tm).pr, .int .i64 ((l).tm).ppm, .int .i64 ((l).tm).stt, .int .i64 ((l).tm).ev, .int .i64 ((l).tm).ct, .int .i64 ((l).tm).ba, .int .i64 ((l).tm).mo, .int .i64 ((l).tm).pen, .int .i64 ((l).tm).fe, .string ((l).tm).cal, .string ((l).tm).cur, .slice da (l).ds.length dk, .slice ca (l).cs.length ck] 27 ∧ Below w.heap.size w W
set_option maxHeartbeats 8000000 in
theorem od_any (l : Lo) (da ca : Option Addr) (dk ck : Nat) (on : Int) (w : World) (h : DuesIn w da l.ds) :
    Calls Tryd.prog 11 #[(.agg #[.int .i64 (l).id, .int .i64 (l).ac, .int .i64 (l).st, .int .i64 (l).pp, .int .i64 (l).pi, .int .i64 (l).fee, .int .i64 (l).pen, .int .i64 (l).chg, .int .i64 (l).prov, .int .i64 (l).loss, .int .i64 (l).rcv, .int .i64 ((l).tm).me, .int .i64 ((l).tm).pr, .int .i64 ((l).tm).ppm, .int .i64 ((l).tm).stt, .int .i64 ((l).tm).ev, .int .i64 ((l).tm).ct, .int .i64 ((l).tm).ba, .int .i64 ((l).tm).mo, .int .i64 ((l).tm).pen, .int .i64 ((l).tm).fe, .string ((l).tm).cal, .string ((l).tm).cur, .slice da (l).ds.length dk, .slice ca (l).cs.length ck]), .int .i64 on] w fun e w' => e = .returned (.int .i64 (ovL l on)) ∧ Below w.heap.size w w' := by
  have H := Lib.hid h
  have hn := h.1
  have b1 : Below w.heap.size w (w.alloc (.cells #[.int .i64 (l).id, .int .i64 (l).ac, .int .i64 (l).st, .int .i64 (l).pp, .int .i64 (l).pi, .int .i64 (l).fee, .int .i64 (l).pen, .int .i64 (l).chg, .int .i64 (l).prov, .int .i64 (l).loss, .int .i64 (l).rcv, .int .i64 ((l).tm).me, .int .i64 ((l).tm).pr, .int .i64 ((l).tm).ppm, .int .i64 ((l).tm).stt, .int .i64 ((l).tm).ev, .int .i64 ((l).tm).ct, .int .i64 ((l).tm).ba, .int .i64 ((l).tm).mo, .int .i64 ((l).tm).pen, .int .i64 ((l).tm).fe, .string ((l).tm).cal, .string ((l).tm).cur, .slice da (l).ds.length dk, .slice ca (l).cs.length ck] 27)) := (Below.refl _ _).alloc (Nat.le_refl _) _
  have k0 := Bk.Blk.nw10 (W := w) (cs := #[.int .i64 (l).id, .int .i64 (l).ac, .int .i64 (l).st, .int .i64 (l).pp, .int .i64 (l).pi, .int .i64 (l).fee, .int .i64 (l).pen, .int .i64 (l).chg, .int .i64 (l).prov, .int .i64 (l).loss, .int .i64 (l).rcv, .int .i64 ((l).tm).me, .int .i64 ((l).tm).pr, .int .i64 ((l).tm).ppm, .int .i64 ((l).tm).stt, .int .i64 ((l).tm).ev, .int .i64 ((l).tm).ct, .int .i64 ((l).tm).ba, .int .i64 ((l).tm).mo, .int .i64 ((l).tm).pen, .int .i64 ((l).tm).fe, .string ((l).tm).cal, .string ((l).tm).cur, .slice da (l).ds.length dk, .slice ca (l).cs.length ck]) (t := 27)
  have l23 := k0.c23
  clear h
  go_enter Tryd.func11, Tryd.ntmps11
  go_wp2_with fail
  clear l23
  go_loopg [5, 11] l.ds.length (odR w l da ca dk ck on)
  case atStart => exact ⟨0, by omega, rfl, by rw [show P (due (l.ds.take 0) on) = 0 from P_nil], k0, b1⟩
  case round =>
    clear k0 b1
    obtain ⟨k, hk, rfl, rfl, k0, hbr⟩ := hrel
    have l3 := k0.c3
    have l23 := k0.c23
    have hz := k0.lt
    by_cases hlt : k < l.ds.length
    · obtain ⟨b, off, rfl, hc⟩ := (H.out.later hbr).2 (by omega)
      obtain ⟨c0, c1, c2, c3⟩ := hc k hlt
      have HS := Lib.hid (Pd_succ (day := on) hlt)
      clear hc
      generalize l.ds[k]! = x at *
      generalize P (due (l.ds.take k) on) = p at *
      have hal : Below wr.heap.size wr (wr.alloc (.cells #[.int .i64 x.no, .int .i64 x.day, .int .i64 x.pr, .int .i64 x.it] 55)) := (Below.refl _ _).alloc (Nat.le_refl _) _
      have k1 := k0.later hal
      have b1 := bl2 hal hbr
      clear hal l3
      by_cases h1 : x.day ≤ on
      · have g1 : decide (x.day ≤ on) = true := decide_eq_true h1
        go_wp2_with fail
        go_roundg (gk - 1)
        case measure => omega
        case rel => exact ⟨k + 1, by omega, by go_num, by rw [HS.out, if_pos h1], k1, b1⟩
      · have g1 : decide (x.day ≤ on) = false := decide_eq_false h1
        go_wp2_with fail
        go_roundg (gk - 1)
        case measure => omega
        case rel => exact ⟨k + 1, by omega, by go_num, by rw [HS.out, if_neg (by omega)], k1, b1⟩
    · have hin : k = l.ds.length := by omega
      have HE := Lib.hid (show P (due (l.ds.take k) on) = P (due l.ds on) by rw [hin, List.take_length])
      have HW := Lib.hid (show ovL l on = max (wrap64 (P (due l.ds on) - l.pp)) 0 from rfl)
      rw [← HE.out] at HW
      clear hin HE
      generalize P (due (l.ds.take k) on) = p at *
      go_wp2_with fail
      all_goals
        go_ret
        exact ⟨by rw [HW.out]; refine congrArg (fun n => Ending.returned (Value.int .i64 n)) ?_; omega, hbr⟩
set_option maxHeartbeats 4000000 in
theorem rod_any (l : Lo) (da ca : Option Addr) (dk ck : Nat) (on : Int) (w : World) (h : DuesIn w da l.ds) :
    Calls Tryd.prog 12 #[(.agg #[.int .i64 (l).id, .int .i64 (l).ac, .int .i64 (l).st, .int .i64 (l).pp, .int .i64 (l).pi, .int .i64 (l).fee, .int .i64 (l).pen, .int .i64 (l).chg, .int .i64 (l).prov, .int .i64 (l).loss, .int .i64 (l).rcv, .int .i64 ((l).tm).me, .int .i64 ((l).tm).pr, .int .i64 ((l).tm).ppm, .int .i64 ((l).tm).stt, .int .i64 ((l).tm).ev, .int .i64 ((l).tm).ct, .int .i64 ((l).tm).ba, .int .i64 ((l).tm).mo, .int .i64 ((l).tm).pen, .int .i64 ((l).tm).fe, .string ((l).tm).cal, .string ((l).tm).cur, .slice da (l).ds.length dk, .slice ca (l).cs.length ck]), .int .i64 on] w fun e w' => e = .returned (.int .i64 (ovL l on)) ∧ Below w.heap.size w w' := by
  have HP := Lib.hid (fun (W : World) (hW : Below w.heap.size w W) => rprin_any l da ca dk ck on W (h.later hW))
  have b1 : Below w.heap.size w (w.alloc (.cells #[.int .i64 (l).id, .int .i64 (l).ac, .int .i64 (l).st, .int .i64 (l).pp, .int .i64 (l).pi, .int .i64 (l).fee, .int .i64 (l).pen, .int .i64 (l).chg, .int .i64 (l).prov, .int .i64 (l).loss, .int .i64 (l).rcv, .int .i64 ((l).tm).me, .int .i64 ((l).tm).pr, .int .i64 ((l).tm).ppm, .int .i64 ((l).tm).stt, .int .i64 ((l).tm).ev, .int .i64 ((l).tm).ct, .int .i64 ((l).tm).ba, .int .i64 ((l).tm).mo, .int .i64 ((l).tm).pen, .int .i64 ((l).tm).fe, .string ((l).tm).cal, .string ((l).tm).cur, .slice da (l).ds.length dk, .slice ca (l).cs.length ck] 27)) := (Below.refl _ _).alloc (Nat.le_refl _) _
  have hk := Bk.Blk.nw10 (W := w) (cs := #[.int .i64 (l).id, .int .i64 (l).ac, .int .i64 (l).st, .int .i64 (l).pp, .int .i64 (l).pi, .int .i64 (l).fee, .int .i64 (l).pen, .int .i64 (l).chg, .int .i64 (l).prov, .int .i64 (l).loss, .int .i64 (l).rcv, .int .i64 ((l).tm).me, .int .i64 ((l).tm).pr, .int .i64 ((l).tm).ppm, .int .i64 ((l).tm).stt, .int .i64 ((l).tm).ev, .int .i64 ((l).tm).ct, .int .i64 ((l).tm).ba, .int .i64 ((l).tm).mo, .int .i64 ((l).tm).pen, .int .i64 ((l).tm).fe, .string ((l).tm).cal, .string ((l).tm).cur, .slice da (l).ds.length dk, .slice ca (l).cs.length ck]) (t := 27)
  have HW := Lib.hid (show ovL l on = max (wrap64 (P (due l.ds on) - l.pp)) 0 from rfl)
  have HWW := Lib.hid (show IntKind.i64.wrap (P (due l.ds on) - l.pp) = wrap64 (P (due l.ds on) - l.pp) by unfold wrap64; rw [IntKind.wrap_i64])
  clear h
  generalize P (due l.ds on) = p at *
  go_enter Tryd.func12, Tryd.ntmps12
  go_upto_region 1 with fail
  generalize w.alloc (.cells #[.int .i64 (l).id, .int .i64 (l).ac, .int .i64 (l).st, .int .i64 (l).pp, .int .i64 (l).pi, .int .i64 (l).fee, .int .i64 (l).pen, .int .i64 (l).chg, .int .i64 (l).prov, .int .i64 (l).loss, .int .i64 (l).rcv, .int .i64 ((l).tm).me, .int .i64 ((l).tm).pr, .int .i64 ((l).tm).ppm, .int .i64 ((l).tm).stt, .int .i64 ((l).tm).ev, .int .i64 ((l).tm).ct, .int .i64 ((l).tm).ba, .int .i64 ((l).tm).mo, .int .i64 ((l).tm).pen, .int .i64 ((l).tm).fe, .string ((l).tm).cal, .string ((l).tm).cur, .slice da (l).ds.length dk, .slice ca (l).cs.length ck] 27) = w1 at *
  have q3 : ∀ W', Reg.Cls w1 W' → W'.cell? ⟨w.heap.size, 3, none⟩ = some (.int .i64 l.pp) := fun W' hW => (hk.later hW).c3
  have HQ := Lib.hid (fun (W' : World) (hW : Reg.Cls w1 W') => hk.later hW)
  clear hk
  refine Reg.region_quiet (by kernel_rfl) (by kernel_rfl) ?_
  iterate 8 (first | go_big_quiet_skip | (go_big_quiet_want; (first | (refine quiet_load_row 27 _ rfl _ rfl _ _ _ _ (HQ.out) Tryd.underlying27 rfl (by kernel_rfl) ?_; (simp only [Act.put, List.setIfInBounds_toArray, List.set_cons_zero, List.set_cons_succ]; go_big_quiet_on)) | (go_big_quiet_op; go_big_quiet_on) | (apply Reg.quiet_run; (intro W hW; skip; go_simp; (first | done | rfl | exact ⟨rfl, rfl⟩ )); (simp only [Act.put, List.setIfInBounds_toArray, List.set_cons_zero, List.set_cons_succ]; go_big_quiet_on)) | (apply Reg.quiet_call; (intro W hW; go_simp; (first | done | rfl | exact ⟨rfl, rfl⟩)); (intro W hW; (first | (go_at_call 26; exact Reg.cls_call hW (HP.out _ (bl2 hW b1))))); (simp only [Act.put, List.setIfInBounds_toArray, List.set_cons_zero, List.set_cons_succ]; go_big_quiet_on)))))
  refine wpQuiet_nil ?_
  intro w2 hW
  have b2 := bl2 hW b1
  go_wp2_with fail
  all_goals
    go_ret
    exact ⟨by rw [HW.out, ← HWW.out]; refine congrArg (fun n => Ending.returned (Value.int .i64 n)) ?_; omega, b2⟩
end Go.Proofs.YtjmgahdjojdanaaDoor.Ln
