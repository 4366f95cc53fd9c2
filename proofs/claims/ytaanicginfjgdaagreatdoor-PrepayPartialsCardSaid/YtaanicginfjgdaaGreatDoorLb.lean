/-
 The reference's small functions on loans: Principal, Interest, Left, within, Valid, Outstanding.
 The reference's Left, Outstanding, Great.
-/
import Derived.Test.YtaanicginfjgdaaGreatDoorLa
namespace Go.Proofs.YtaanicginfjgdaaGreatDoor.Ln
open Go.RowKit
open Go.Proofs.YtaanicginfjgdaaGreatDoor

def Dok (ds : List Du) : Prop := ∀ d ∈ ds, d.day ≤ 9223372036854775807
theorem rvalid_any (n : Int) (w : World) : Calls Tryz.prog 57 #[.int .i64 n] w fun e w' => e = .returned (.bool (dayB n)) ∧ w = w' := by
 unfold dayB
 by_cases h : 0 ≤ n
 ·by_cases h2 : n ≤ 73048
  ·rw [decide_eq_true ⟨h, h2⟩]
   go_enter Tryz.func57, Tryz.ntmps57
   go_wp2_with fail
   go_ret
   exact ⟨by simp, rfl⟩
  ·rw [decide_eq_false (by omega)]
   go_enter Tryz.func57, Tryz.ntmps57
   go_wp2_with fail
   go_ret
   exact ⟨by simp, rfl⟩
 ·rw [decide_eq_false (by omega)]
  go_enter Tryz.func57, Tryz.ntmps57
  go_wp2_with fail
  go_ret
  exact ⟨by simp, rfl⟩
theorem within_any (n m : Int) (w : World) : Calls Tryz.prog 127 #[.int .i64 n, .int .i64 m] w fun e w' => e = .returned (.bool (decide (0 ≤ n ∧ n ≤ m))) ∧ w = w' := by
 by_cases h : 0 ≤ n
 ·by_cases h2 : n ≤ m
  ·rw [decide_eq_true ⟨h, h2⟩]
   go_enter Tryz.func127, Tryz.ntmps127
   go_wp2_with fail
   go_ret
   exact ⟨by simp, rfl⟩
  ·rw [decide_eq_false (by omega)]
   have h3 : m < n := by omega
   go_enter Tryz.func127, Tryz.ntmps127
   go_wp2_with fail
   go_ret
   exact ⟨by simp, rfl⟩
 ·rw [decide_eq_false (by omega)]
  go_enter Tryz.func127, Tryz.ntmps127
  go_wp2_with fail
  go_ret
  exact ⟨by simp, rfl⟩

def rprinR (W0 : World) (ds : List Du) (day : Int) (g : Nat) (s5 s6 : Value) (W : World) : Prop := ∃ k : Nat, k + g = ds.length ∧ s6 = .int .i64 k ∧ s5 = .int .i64 (P (due (ds.take k) day)) ∧ W = W0
set_option maxHeartbeats 4000000 in
theorem rprin_any (l : Lo) (da ca : Option Addr) (dk ck : Nat) (day : Int) (w : World) (h : DuesIn w da l.ds) :
  Calls Tryz.prog 59 #[(.agg #[.int .i64 (l).id, .int .i64 (l).ac, .int .i64 (l).st, .int .i64 (l).pp, .int .i64 (l).pi, .int .i64 (l).fee, .int .i64 (l).pen, .int .i64 (l).chg, .int .i64 (l).prov, .int .i64 (l).loss, .int .i64 (l).rcv, .int .i64 ((l).tm).me, .int .i64 ((l).tm).pr, .int .i64 ((l).tm).ppm, .int .i64 ((l).tm).stt, .int .i64 ((l).tm).ev, .int .i64 ((l).tm).ct, .int .i64 ((l).tm).ba, .int .i64 ((l).tm).mo, .int .i64 ((l).tm).pen, .int .i64 ((l).tm).fe, .string ((l).tm).cal, .string ((l).tm).cur, .slice da (l).ds.length dk, .slice ca (l).cs.length ck]), .int .i64 day] w fun e w' => e = .returned (.int .i64 (P (due l.ds day))) ∧ Below w.heap.size w w' := by
 have H := Lib.hid h
 have hn := h.1
 clear h
 have hk := Bk.Blk.nw10 (W := w) (cs := #[.int .i64 (l).id, .int .i64 (l).ac, .int .i64 (l).st, .int .i64 (l).pp, .int .i64 (l).pi, .int .i64 (l).fee, .int .i64 (l).pen, .int .i64 (l).chg, .int .i64 (l).prov, .int .i64 (l).loss, .int .i64 (l).rcv, .int .i64 ((l).tm).me, .int .i64 ((l).tm).pr, .int .i64 ((l).tm).ppm, .int .i64 ((l).tm).stt, .int .i64 ((l).tm).ev, .int .i64 ((l).tm).ct, .int .i64 ((l).tm).ba, .int .i64 ((l).tm).mo, .int .i64 ((l).tm).pen, .int .i64 ((l).tm).fe, .string ((l).tm).cal, .string ((l).tm).cur, .slice da (l).ds.length dk, .slice ca (l).cs.length ck]) (t := 27)
 have b1 : Below w.heap.size w (w.alloc (.cells #[.int .i64 (l).id, .int .i64 (l).ac, .int .i64 (l).st, .int .i64 (l).pp, .int .i64 (l).pi, .int .i64 (l).fee, .int .i64 (l).pen, .int .i64 (l).chg, .int .i64 (l).prov, .int .i64 (l).loss, .int .i64 (l).rcv, .int .i64 ((l).tm).me, .int .i64 ((l).tm).pr, .int .i64 ((l).tm).ppm, .int .i64 ((l).tm).stt, .int .i64 ((l).tm).ev, .int .i64 ((l).tm).ct, .int .i64 ((l).tm).ba, .int .i64 ((l).tm).mo, .int .i64 ((l).tm).pen, .int .i64 ((l).tm).fe, .string ((l).tm).cal, .string ((l).tm).cur, .slice da (l).ds.length dk, .slice ca (l).cs.length ck] 27)) := (Below.refl _ _).alloc (Nat.le_refl _) _
 go_enter Tryz.func59, Tryz.ntmps59
 go_wp2_with fail
 generalize w.alloc (.cells _ 27) = w1 at *
 have l23 := hk.c23
 clear hk
 go_loopg [5, 6] l.ds.length (rprinR w1 l.ds day)
 case atStart => exact ⟨0, by omega, rfl, by simp [due, P_nil], rfl⟩
 case round =>
  obtain ⟨k, hk, rfl, rfl, rfl⟩ := hrel
  by_cases hlt : k < l.ds.length
  ·obtain ⟨b, off, rfl, hc⟩ := H.out.2 (by omega)
   obtain ⟨c0, c1, c2, c3⟩ := hc k hlt
   replace c1 := cell_later b1 c1
   replace c2 := cell_later b1 c2
   have HS := Lib.hid (Pd_succ (day := day) hlt)
   clear hc c0 c3
   generalize l.ds[k]! = d at *
   generalize P (due (l.ds.take k) day) = s at *
   by_cases hd : d.day ≤ day
   ·have HT := Lib.hid (HS.out.trans (if_pos hd))
    go_wp2_with fail
    go_roundg (gk - 1)
    case measure => omega
    case rel => exact ⟨k + 1, by omega, by go_num, by rw [HT.out], rfl⟩
   ·have HT := Lib.hid (HS.out.trans (if_neg hd))
    go_wp2_with fail
    go_roundg (gk - 1)
    case measure => omega
    case rel => exact ⟨k + 1, by omega, by go_num, by rw [HT.out], rfl⟩
  ·have hkn : k = l.ds.length := by omega
   rw [hkn, List.take_length]
   clear hkn
   go_wp2_with fail
   go_ret
   exact ⟨rfl, b1⟩

def rintR (W0 : World) (ds : List Du) (day : Int) (g : Nat) (s5 s6 : Value) (W : World) : Prop := ∃ k : Nat, k + g = ds.length ∧ s6 = .int .i64 k ∧ s5 = .int .i64 (I (due (ds.take k) day)) ∧ W = W0
set_option maxHeartbeats 4000000 in
theorem rint_any (l : Lo) (da ca : Option Addr) (dk ck : Nat) (day : Int) (w : World) (h : DuesIn w da l.ds) :
  Calls Tryz.prog 94 #[(.agg #[.int .i64 (l).id, .int .i64 (l).ac, .int .i64 (l).st, .int .i64 (l).pp, .int .i64 (l).pi, .int .i64 (l).fee, .int .i64 (l).pen, .int .i64 (l).chg, .int .i64 (l).prov, .int .i64 (l).loss, .int .i64 (l).rcv, .int .i64 ((l).tm).me, .int .i64 ((l).tm).pr, .int .i64 ((l).tm).ppm, .int .i64 ((l).tm).stt, .int .i64 ((l).tm).ev, .int .i64 ((l).tm).ct, .int .i64 ((l).tm).ba, .int .i64 ((l).tm).mo, .int .i64 ((l).tm).pen, .int .i64 ((l).tm).fe, .string ((l).tm).cal, .string ((l).tm).cur, .slice da (l).ds.length dk, .slice ca (l).cs.length ck]), .int .i64 day] w fun e w' => e = .returned (.int .i64 (I (due l.ds day))) ∧ Below w.heap.size w w' := by
 have H := Lib.hid h
 have hn := h.1
 clear h
 have hk := Bk.Blk.nw10 (W := w) (cs := #[.int .i64 (l).id, .int .i64 (l).ac, .int .i64 (l).st, .int .i64 (l).pp, .int .i64 (l).pi, .int .i64 (l).fee, .int .i64 (l).pen, .int .i64 (l).chg, .int .i64 (l).prov, .int .i64 (l).loss, .int .i64 (l).rcv, .int .i64 ((l).tm).me, .int .i64 ((l).tm).pr, .int .i64 ((l).tm).ppm, .int .i64 ((l).tm).stt, .int .i64 ((l).tm).ev, .int .i64 ((l).tm).ct, .int .i64 ((l).tm).ba, .int .i64 ((l).tm).mo, .int .i64 ((l).tm).pen, .int .i64 ((l).tm).fe, .string ((l).tm).cal, .string ((l).tm).cur, .slice da (l).ds.length dk, .slice ca (l).cs.length ck]) (t := 27)
 have b1 : Below w.heap.size w (w.alloc (.cells #[.int .i64 (l).id, .int .i64 (l).ac, .int .i64 (l).st, .int .i64 (l).pp, .int .i64 (l).pi, .int .i64 (l).fee, .int .i64 (l).pen, .int .i64 (l).chg, .int .i64 (l).prov, .int .i64 (l).loss, .int .i64 (l).rcv, .int .i64 ((l).tm).me, .int .i64 ((l).tm).pr, .int .i64 ((l).tm).ppm, .int .i64 ((l).tm).stt, .int .i64 ((l).tm).ev, .int .i64 ((l).tm).ct, .int .i64 ((l).tm).ba, .int .i64 ((l).tm).mo, .int .i64 ((l).tm).pen, .int .i64 ((l).tm).fe, .string ((l).tm).cal, .string ((l).tm).cur, .slice da (l).ds.length dk, .slice ca (l).cs.length ck] 27)) := (Below.refl _ _).alloc (Nat.le_refl _) _
 go_enter Tryz.func94, Tryz.ntmps94
 go_wp2_with fail
 generalize w.alloc (.cells _ 27) = w1 at *
 have l23 := hk.c23
 clear hk
 go_loopg [5, 6] l.ds.length (rintR w1 l.ds day)
 case atStart => exact ⟨0, by omega, rfl, by simp [due, I_nil], rfl⟩
 case round =>
  obtain ⟨k, hk, rfl, rfl, rfl⟩ := hrel
  by_cases hlt : k < l.ds.length
  ·obtain ⟨b, off, rfl, hc⟩ := H.out.2 (by omega)
   obtain ⟨c0, c1, c2, c3⟩ := hc k hlt
   replace c1 := cell_later b1 c1
   replace c3 := cell_later b1 c3
   have HS := Lib.hid (Id_succ (day := day) hlt)
   clear hc c0 c2
   generalize l.ds[k]! = d at *
   generalize I (due (l.ds.take k) day) = s at *
   by_cases hd : d.day ≤ day
   ·have HT := Lib.hid (HS.out.trans (if_pos hd))
    go_wp2_with fail
    go_roundg (gk - 1)
    case measure => omega
    case rel => exact ⟨k + 1, by omega, by go_num, by rw [HT.out], rfl⟩
   ·have HT := Lib.hid (HS.out.trans (if_neg hd))
    go_wp2_with fail
    go_roundg (gk - 1)
    case measure => omega
    case rel => exact ⟨k + 1, by omega, by go_num, by rw [HT.out], rfl⟩
  ·have hkn : k = l.ds.length := by omega
   rw [hkn, List.take_length]
   clear hkn
   go_wp2_with fail
   go_ret
   exact ⟨rfl, b1⟩
end Go.Proofs.YtaanicginfjgdaaGreatDoor.Ln

namespace Go.Proofs.YtaanicginfjgdaaGreatDoor.Ln
open Go.RowKit
open Go.Proofs.YtaanicginfjgdaaGreatDoor

theorem quiet_load_row {P : Program} {C : World → Prop} {a : Act} {o : Oper} {K : Act → Prop} (ty : TypeId) (x : Operand) (ho : o.op = .load ty x)
  (g : Nat) (hx : a.eval x = .pointer (some ⟨g, 0, none⟩)) (t : TypeId) (cs : Array Value) (fr : Nat × Nat) (d : TypeDesc) (hg : ∀ w, C w → w.heap[g]? = some (.cells cs t fr))
  (hu : P.underlying ty = some d) (hd : (match d with | .struct _ | .array _ _ => true | _ => false) = true) (hi : (P.info? ty).map (·.size) = some cs.size)
  (hk : K (a.put o.dst (.agg cs))) : o.quiet P a C K :=
 Reg.quiet_run (v := .agg cs) (fun w hw => by
  unfold execOp
  simp only [ho, hx, Instr.loadAt, Instr.sureAddr, Sem.run_bind, Sem.run_pure, Result.andThen_ok, run_loadVar_row w g t ty cs fr d (hg w hw) hu hd hi]) hk
theorem rdue_all {ds : List Du} (h : Dok ds) : due ds 9223372036854775807 = ds := due_all h

set_option maxHeartbeats 4000000 in
theorem rout_any (l : Lo) (da ca : Option Addr) (dk ck : Nat) (w : World) (h : DuesIn w da l.ds) (hd : Dok l.ds) :
  Calls Tryz.prog 27 #[(.agg #[.int .i64 (l).id, .int .i64 (l).ac, .int .i64 (l).st, .int .i64 (l).pp, .int .i64 (l).pi, .int .i64 (l).fee, .int .i64 (l).pen, .int .i64 (l).chg, .int .i64 (l).prov, .int .i64 (l).loss, .int .i64 (l).rcv, .int .i64 ((l).tm).me, .int .i64 ((l).tm).pr, .int .i64 ((l).tm).ppm, .int .i64 ((l).tm).stt, .int .i64 ((l).tm).ev, .int .i64 ((l).tm).ct, .int .i64 ((l).tm).ba, .int .i64 ((l).tm).mo, .int .i64 ((l).tm).pen, .int .i64 ((l).tm).fe, .string ((l).tm).cal, .string ((l).tm).cur, .slice da (l).ds.length dk, .slice ca (l).cs.length ck])] w fun e w' => e = .returned (.int .i64 (wrap64 (P l.ds - l.pp))) ∧ Below w.heap.size w w' := by
 have hp := fun (W : World) (hW : Below w.heap.size w W) => rprin_any l da ca dk ck 9223372036854775807 W (h.later hW)
 have hi := fun (W : World) (hW : Below w.heap.size w W) => rint_any l da ca dk ck 9223372036854775807 W (h.later hW)
 rw [rdue_all hd] at hp hi
 have HP := Lib.hid hp
 have HI := Lib.hid hi
 clear hp hi h
 have hk := Bk.Blk.nw10 (W := w) (cs := #[.int .i64 (l).id, .int .i64 (l).ac, .int .i64 (l).st, .int .i64 (l).pp, .int .i64 (l).pi, .int .i64 (l).fee, .int .i64 (l).pen, .int .i64 (l).chg, .int .i64 (l).prov, .int .i64 (l).loss, .int .i64 (l).rcv, .int .i64 ((l).tm).me, .int .i64 ((l).tm).pr, .int .i64 ((l).tm).ppm, .int .i64 ((l).tm).stt, .int .i64 ((l).tm).ev, .int .i64 ((l).tm).ct, .int .i64 ((l).tm).ba, .int .i64 ((l).tm).mo, .int .i64 ((l).tm).pen, .int .i64 ((l).tm).fe, .string ((l).tm).cal, .string ((l).tm).cur, .slice da (l).ds.length dk, .slice ca (l).cs.length ck]) (t := 27)
 have b1 : Below w.heap.size w (w.alloc (.cells #[.int .i64 (l).id, .int .i64 (l).ac, .int .i64 (l).st, .int .i64 (l).pp, .int .i64 (l).pi, .int .i64 (l).fee, .int .i64 (l).pen, .int .i64 (l).chg, .int .i64 (l).prov, .int .i64 (l).loss, .int .i64 (l).rcv, .int .i64 ((l).tm).me, .int .i64 ((l).tm).pr, .int .i64 ((l).tm).ppm, .int .i64 ((l).tm).stt, .int .i64 ((l).tm).ev, .int .i64 ((l).tm).ct, .int .i64 ((l).tm).ba, .int .i64 ((l).tm).mo, .int .i64 ((l).tm).pen, .int .i64 ((l).tm).fe, .string ((l).tm).cal, .string ((l).tm).cur, .slice da (l).ds.length dk, .slice ca (l).cs.length ck] 27)) := (Below.refl _ _).alloc (Nat.le_refl _) _
 generalize P l.ds = p at *
 have HW := Lib.hid (show IntKind.i64.wrap (p - l.pp) = wrap64 (p - l.pp) by unfold wrap64; rw [IntKind.wrap_i64])
 go_enter Tryz.func27, Tryz.ntmps27
 go_wp2_with fail
 generalize w.alloc (.cells _ 27) = w1 at *
 have q3 : ∀ W', Reg.Cls w1 W' → W'.cell? ⟨w.heap.size, 3, none⟩ = some (.int .i64 l.pp) := fun W' hW => (hk.later hW).c3
 have hq : ∀ W', Reg.Cls w1 W' → W'.heap[w.heap.size]? = some (.cells #[.int .i64 (l).id, .int .i64 (l).ac, .int .i64 (l).st, .int .i64 (l).pp, .int .i64 (l).pi, .int .i64 (l).fee, .int .i64 (l).pen, .int .i64 (l).chg, .int .i64 (l).prov, .int .i64 (l).loss, .int .i64 (l).rcv, .int .i64 ((l).tm).me, .int .i64 ((l).tm).pr, .int .i64 ((l).tm).ppm, .int .i64 ((l).tm).stt, .int .i64 ((l).tm).ev, .int .i64 ((l).tm).ct, .int .i64 ((l).tm).ba, .int .i64 ((l).tm).mo, .int .i64 ((l).tm).pen, .int .i64 ((l).tm).fe, .string ((l).tm).cal, .string ((l).tm).cur, .slice da (l).ds.length dk, .slice ca (l).cs.length ck] 27 (0, 0)) := fun W' hW => hk.later hW
 have HQ := Lib.hid hq
 clear hq hk
 refine Reg.region_quiet (by kernel_rfl) (by kernel_rfl) ?_
 iterate 6 (first | go_big_quiet_skip | (go_big_quiet_want; (first | (refine quiet_load_row 27 _ rfl _ rfl _ _ _ _ (HQ.out) Tryz.underlying27 rfl (by kernel_rfl) ?_; (simp only [Act.put, List.setIfInBounds_toArray, List.set_cons_zero, List.set_cons_succ]; go_big_quiet_on)) | (go_big_quiet_op; go_big_quiet_on) | (apply Reg.quiet_run; (intro W hW; skip; go_simp; (first | done | rfl | exact ⟨rfl, rfl⟩ )); (simp only [Act.put, List.setIfInBounds_toArray, List.set_cons_zero, List.set_cons_succ]; go_big_quiet_on)) | (apply Reg.quiet_call; (intro W hW; go_simp; (first | done | rfl | exact ⟨rfl, rfl⟩)); (intro W hW; (first | (go_at_call 59; exact Reg.cls_call hW (HP.out _ (bl2 hW b1))))); (simp only [Act.put, List.setIfInBounds_toArray, List.set_cons_zero, List.set_cons_succ]; go_big_quiet_on)))))
 refine wpQuiet_nil ?_
 intro w2 hW
 have b2 := bl2 hW b1
 go_wp2_with fail
 go_ret
 exact ⟨by first | rfl | (rw [HW.out]; rfl) | (rw [← HW.out]; rfl), b2⟩

set_option maxHeartbeats 4000000 in
theorem rleft_any (l : Lo) (da ca : Option Addr) (dk ck : Nat) (w : World) (h : DuesIn w da l.ds) (hd : Dok l.ds) :
  Calls Tryz.prog 95 #[(.agg #[.int .i64 (l).id, .int .i64 (l).ac, .int .i64 (l).st, .int .i64 (l).pp, .int .i64 (l).pi, .int .i64 (l).fee, .int .i64 (l).pen, .int .i64 (l).chg, .int .i64 (l).prov, .int .i64 (l).loss, .int .i64 (l).rcv, .int .i64 ((l).tm).me, .int .i64 ((l).tm).pr, .int .i64 ((l).tm).ppm, .int .i64 ((l).tm).stt, .int .i64 ((l).tm).ev, .int .i64 ((l).tm).ct, .int .i64 ((l).tm).ba, .int .i64 ((l).tm).mo, .int .i64 ((l).tm).pen, .int .i64 ((l).tm).fe, .string ((l).tm).cal, .string ((l).tm).cur, .slice da (l).ds.length dk, .slice ca (l).cs.length ck])] w fun e w' => e = .returned (.bool (leftB l)) ∧ Below w.heap.size w w' := by
 have hp := fun (W : World) (hW : Below w.heap.size w W) => rprin_any l da ca dk ck 9223372036854775807 W (h.later hW)
 have hi := fun (W : World) (hW : Below w.heap.size w W) => rint_any l da ca dk ck 9223372036854775807 W (h.later hW)
 rw [rdue_all hd] at hp hi
 have HP := Lib.hid hp
 have HI := Lib.hid hi
 clear hp hi h
 have hk := Bk.Blk.nw10 (W := w) (cs := #[.int .i64 (l).id, .int .i64 (l).ac, .int .i64 (l).st, .int .i64 (l).pp, .int .i64 (l).pi, .int .i64 (l).fee, .int .i64 (l).pen, .int .i64 (l).chg, .int .i64 (l).prov, .int .i64 (l).loss, .int .i64 (l).rcv, .int .i64 ((l).tm).me, .int .i64 ((l).tm).pr, .int .i64 ((l).tm).ppm, .int .i64 ((l).tm).stt, .int .i64 ((l).tm).ev, .int .i64 ((l).tm).ct, .int .i64 ((l).tm).ba, .int .i64 ((l).tm).mo, .int .i64 ((l).tm).pen, .int .i64 ((l).tm).fe, .string ((l).tm).cal, .string ((l).tm).cur, .slice da (l).ds.length dk, .slice ca (l).cs.length ck]) (t := 27)
 have b1 : Below w.heap.size w (w.alloc (.cells #[.int .i64 (l).id, .int .i64 (l).ac, .int .i64 (l).st, .int .i64 (l).pp, .int .i64 (l).pi, .int .i64 (l).fee, .int .i64 (l).pen, .int .i64 (l).chg, .int .i64 (l).prov, .int .i64 (l).loss, .int .i64 (l).rcv, .int .i64 ((l).tm).me, .int .i64 ((l).tm).pr, .int .i64 ((l).tm).ppm, .int .i64 ((l).tm).stt, .int .i64 ((l).tm).ev, .int .i64 ((l).tm).ct, .int .i64 ((l).tm).ba, .int .i64 ((l).tm).mo, .int .i64 ((l).tm).pen, .int .i64 ((l).tm).fe, .string ((l).tm).cal, .string ((l).tm).cur, .slice da (l).ds.length dk, .slice ca (l).cs.length ck] 27)) := (Below.refl _ _).alloc (Nat.le_refl _) _
 have HB := Lib.hid (show leftB l = (decide (l.pp ≠ P l.ds) || decide (l.pi ≠ I l.ds) || decide (l.fee ≠ 0) || decide (l.pen ≠ 0)) from rfl)
 generalize P l.ds = p at *
 generalize I l.ds = i at *
 generalize leftB l = r at *
 have hc : (r = true ∧ (p != l.pp) = true) ∨ (r = true ∧ (p != l.pp) = false ∧ (i != l.pi) = true) ∨ (r = true ∧ (p != l.pp) = false ∧ (i != l.pi) = false ∧ (l.fee != 0) = true) ∨ (r = true ∧ (p != l.pp) = false ∧ (i != l.pi) = false ∧ (l.fee != 0) = false ∧ (l.pen != 0) = true) ∨ (r = false ∧ (p != l.pp) = false ∧ (i != l.pi) = false ∧ (l.fee != 0) = false ∧ (l.pen != 0) = false) := by
  rw [HB.out]
  by_cases h1 : l.pp = p
  ·have g1 : (p != l.pp) = false := by rw [h1]; exact bne_self_eq_false _
   by_cases h2 : l.pi = i
   ·have g2 : (i != l.pi) = false := by rw [h2]; exact bne_self_eq_false _
    by_cases h3 : l.fee = 0
    ·have g3 : (l.fee != 0) = false := by rw [h3]; rfl
     by_cases h4 : l.pen = 0
     ·exact .inr (.inr (.inr (.inr ⟨by simp [h1, h2, h3, h4], g1, g2, g3, by rw [h4]; rfl⟩)))
     ·exact .inr (.inr (.inr (.inl ⟨by simp [h4], g1, g2, g3, bne_iff_ne.2 h4⟩)))
    ·exact .inr (.inr (.inl ⟨by simp [h3], g1, g2, bne_iff_ne.2 h3⟩))
   ·exact .inr (.inl ⟨by simp [h2], g1, bne_iff_ne.2 (Ne.symm h2)⟩)
  ·exact .inl ⟨by simp [h1], bne_iff_ne.2 (Ne.symm h1)⟩
 clear HB
 rcases hc with ⟨rfl, h1⟩ | ⟨rfl, h1, h2⟩ | ⟨rfl, h1, h2, h3⟩ | ⟨rfl, h1, h2, h3, h4⟩ | ⟨rfl, h1, h2, h3, h4⟩
 all_goals
  go_enter Tryz.func95, Tryz.ntmps95
  go_wp2_with fail
  generalize w.alloc (.cells _ 27) = w1 at *
  have q3 : ∀ W', Reg.Cls w1 W' → W'.cell? ⟨w.heap.size, 3, none⟩ = some (.int .i64 l.pp) := fun W' hW => (hk.later hW).c3
  have q4 : ∀ W', Reg.Cls w1 W' → W'.cell? ⟨w.heap.size, 4, none⟩ = some (.int .i64 l.pi) := fun W' hW => (hk.later hW).c4
  have q5 : ∀ W', Reg.Cls w1 W' → W'.cell? ⟨w.heap.size, 5, none⟩ = some (.int .i64 l.fee) := fun W' hW => (hk.later hW).c5
  have q6 : ∀ W', Reg.Cls w1 W' → W'.cell? ⟨w.heap.size, 6, none⟩ = some (.int .i64 l.pen) := fun W' hW => (hk.later hW).c6
  have HQ := Lib.hid (fun (W' : World) (hW : Reg.Cls w1 W') => hk.later hW)
  clear hk
  refine Reg.region_quiet (by kernel_rfl) (by kernel_rfl) ?_
  iterate 23 (first | go_big_quiet_skip | (go_big_quiet_want; (first | (refine quiet_load_row 27 _ rfl _ rfl _ _ _ _ (HQ.out) Tryz.underlying27 rfl (by kernel_rfl) ?_; (simp only [Act.put, List.setIfInBounds_toArray, List.set_cons_zero, List.set_cons_succ]; go_big_quiet_on)) | (go_big_quiet_op; go_big_quiet_on) | (apply Reg.quiet_run; (intro W hW; skip; go_simp; (first | done | rfl | exact ⟨rfl, rfl⟩ )); (simp only [Act.put, List.setIfInBounds_toArray, List.set_cons_zero, List.set_cons_succ]; go_big_quiet_on)) | (apply Reg.quiet_call; (intro W hW; go_simp; (first | done | rfl | exact ⟨rfl, rfl⟩)); (intro W hW; (first | (go_at_call 59; exact Reg.cls_call hW (HP.out _ (bl2 hW b1))) | (go_at_call 94; exact Reg.cls_call hW (HI.out _ (bl2 hW b1))))); (simp only [Act.put, List.setIfInBounds_toArray, List.set_cons_zero, List.set_cons_succ]; go_big_quiet_on)))))
  refine wpQuiet_nil ?_
  intro w2 hW
  have b2 := bl2 hW b1
  go_wp2_with fail
  go_ret
  exact ⟨rfl, b2⟩

def greatB (l : Lo) : Bool := decide (300 < l.ds.length) || decide (100 < l.cs.length)
end Go.Proofs.YtaanicginfjgdaaGreatDoor.Ln
