/-
 First of chapter 35's reference; sums of the first installments.
-/
import Derived.Test.YtaanicginfjgdaaGreatDoorPpa
namespace Go.Proofs.YtaanicginfjgdaaGreatDoor.Pp
open Go Go.RowKit
open Go.Proofs.YtaanicginfjgdaaGreatDoor
open Go.Proofs.YtaanicginfjgdaaGreatDoor.Ln (Tm Ch Du Lo Pa sum prs its P I due chk Ok ok_iff wrap_in wrap_add powed zLo LoIn DuesIn RowIn OwnR denc denc_len cenc cenc_len penc penc_len tenc flat flat_len Dok dues_of_row bl2 SB SB.mono SQ SQ.mono take_at one_at two_at call_at call_wp call_one call_pv value_wp yields_load_row Blk_setRow_same Blk_setRow_ne Below_setRow dues_setRow row_row one25 load_guarded results2_cell dues_lt rowc_lt rangeAt_later tk ts z0 z1 z3 z4 z5)
open Go.Proofs.YtaanicginfjgdaaGreatDoor.Rd (gd pcV pcE Stp)
open Go.Proofs.YtaanicginfjgdaaGreatDoor.Kl (Cl CalIn skE)
set_option linter.unusedSimpArgs false
set_option linter.unusedVariables false
set_option maxRecDepth 100000

theorem dok_of {ds : List Du} (h : ds.all Ln.dueB = true) : Dok ds := fun d hd => by have := (each_of h d hd).1; omega
theorem P_succ {ds : List Du} {i : Nat} (h : i < ds.length) : P (ds.take (i + 1)) = wrap64 (P (ds.take i) + ds[i]!.pr) := by
 unfold P prs
 rw [List.take_add_one, List.map_append, Ln.sum_append, List.getElem?_eq_getElem h, getElem!_pos ds i h]
 simp [sum, wrap_add]
theorem I_succ {ds : List Du} {i : Nat} (h : i < ds.length) : I (ds.take (i + 1)) = wrap64 (I (ds.take i) + ds[i]!.it) := by
 unfold I its
 rw [List.take_add_one, List.map_append, Ln.sum_append, List.getElem?_eq_getElem h, getElem!_pos ds i h]
 simp [sum, wrap_add]
def FiR (w1 : World) (l : Lo) (day : Int) (g : Nat) (s5 : Value) (W : World) : Prop := ∃ i : Nat, i + g = atN l day ∧ s5 = .int .i64 i ∧ w1 = W
set_option maxHeartbeats 8000000 in
theorem first35_any (l : Lo) (da ca : Option Addr) (dk ck : Nat) (day : Int) (w : World) (h : DuesIn w da l.ds) (ho : Or l.ds) (hn : l.ds.length ≤ 100000) : Calls Tryz.prog 37 #[(.agg #[.int .i64 (l).id, .int .i64 (l).ac, .int .i64 (l).st, .int .i64 (l).pp, .int .i64 (l).pi, .int .i64 (l).fee, .int .i64 (l).pen, .int .i64 (l).chg, .int .i64 (l).prov, .int .i64 (l).loss, .int .i64 (l).rcv, .int .i64 ((l).tm).me, .int .i64 ((l).tm).pr, .int .i64 ((l).tm).ppm, .int .i64 ((l).tm).stt, .int .i64 ((l).tm).ev, .int .i64 ((l).tm).ct, .int .i64 ((l).tm).ba, .int .i64 ((l).tm).mo, .int .i64 ((l).tm).pen, .int .i64 ((l).tm).fe, .string ((l).tm).cal, .string ((l).tm).cur, .slice da (l).ds.length dk, .slice ca (l).cs.length ck]), .int .i64 day] w fun e w' => e = .returned (.int .i64 (atN l day)) ∧ Below w.heap.size w w' := by
 have cw : Below w.heap.size w (w.alloc (.cells #[.int .i64 (l).id, .int .i64 (l).ac, .int .i64 (l).st, .int .i64 (l).pp, .int .i64 (l).pi, .int .i64 (l).fee, .int .i64 (l).pen, .int .i64 (l).chg, .int .i64 (l).prov, .int .i64 (l).loss, .int .i64 (l).rcv, .int .i64 ((l).tm).me, .int .i64 ((l).tm).pr, .int .i64 ((l).tm).ppm, .int .i64 ((l).tm).stt, .int .i64 ((l).tm).ev, .int .i64 ((l).tm).ct, .int .i64 ((l).tm).ba, .int .i64 ((l).tm).mo, .int .i64 ((l).tm).pen, .int .i64 ((l).tm).fe, .string ((l).tm).cal, .string ((l).tm).cur, .slice da (l).ds.length dk, .slice ca (l).cs.length ck] 27)) := (Below.refl _ _).alloc (Nat.le_refl _) _
 have k0 : Bk.Blk (w.alloc (.cells #[.int .i64 (l).id, .int .i64 (l).ac, .int .i64 (l).st, .int .i64 (l).pp, .int .i64 (l).pi, .int .i64 (l).fee, .int .i64 (l).pen, .int .i64 (l).chg, .int .i64 (l).prov, .int .i64 (l).loss, .int .i64 (l).rcv, .int .i64 ((l).tm).me, .int .i64 ((l).tm).pr, .int .i64 ((l).tm).ppm, .int .i64 ((l).tm).stt, .int .i64 ((l).tm).ev, .int .i64 ((l).tm).ct, .int .i64 ((l).tm).ba, .int .i64 ((l).tm).mo, .int .i64 ((l).tm).pen, .int .i64 ((l).tm).fe, .string ((l).tm).cal, .string ((l).tm).cur, .slice da (l).ds.length dk, .slice ca (l).cs.length ck] 27)) w.heap.size #[.int .i64 (l).id, .int .i64 (l).ac, .int .i64 (l).st, .int .i64 (l).pp, .int .i64 (l).pi, .int .i64 (l).fee, .int .i64 (l).pen, .int .i64 (l).chg, .int .i64 (l).prov, .int .i64 (l).loss, .int .i64 (l).rcv, .int .i64 ((l).tm).me, .int .i64 ((l).tm).pr, .int .i64 ((l).tm).ppm, .int .i64 ((l).tm).stt, .int .i64 ((l).tm).ev, .int .i64 ((l).tm).ct, .int .i64 ((l).tm).ba, .int .i64 ((l).tm).mo, .int .i64 ((l).tm).pen, .int .i64 ((l).tm).fe, .string ((l).tm).cal, .string ((l).tm).cur, .slice da (l).ds.length dk, .slice ca (l).cs.length ck] 27 := Bk.Blk.nw10
 have HD := Lib.hid ((h.later cw).row)
 have HO := Lib.hid ho
 clear h ho
 have hal := at_le l day
 have l23 := k0.c23
 go_enter Tryz.func37, Tryz.ntmps37
 go_upto_region 2 with fail
 generalize (w.alloc (.cells #[.int .i64 (l).id, .int .i64 (l).ac, .int .i64 (l).st, .int .i64 (l).pp, .int .i64 (l).pi, .int .i64 (l).fee, .int .i64 (l).pen, .int .i64 (l).chg, .int .i64 (l).prov, .int .i64 (l).loss, .int .i64 (l).rcv, .int .i64 ((l).tm).me, .int .i64 ((l).tm).pr, .int .i64 ((l).tm).ppm, .int .i64 ((l).tm).stt, .int .i64 ((l).tm).ev, .int .i64 ((l).tm).ct, .int .i64 ((l).tm).ba, .int .i64 ((l).tm).mo, .int .i64 ((l).tm).pen, .int .i64 ((l).tm).fe, .string ((l).tm).cal, .string ((l).tm).cur, .slice da (l).ds.length dk, .slice ca (l).cs.length ck] 27)) = w1 at *
 go_loopg [5] (atN l day) (FiR w1 l day)
 case atStart => exact ⟨0, by omega, rfl, rfl⟩
 case round =>
  obtain ⟨i, hi, rfl, rfl⟩ := hrel
  by_cases hlt : i < l.ds.length
  ·obtain ⟨b, off, rfl, hc⟩ := HD.out.mid denc_len (by omega)
   have q1 : w1.cell? ⟨b, off + i * 4 + 1, none⟩ = some (.int .i64 (l.ds[i]!).day) := hc i hlt 1 _ rfl
   have hat := at_iff HO.out (day := day) hlt
   clear hc
   generalize l.ds[i]!.day = d at *
   by_cases hd : d ≤ day
   ·have hia := hat.1 hd
    clear hat
    go_wp2_with fail
    go_roundg (gk - 1)
    case measure => omega
    case rel => exact ⟨i + 1, by omega, by go_num, rfl⟩
   ·have hia : atN l day = i := by have := fun e => hd (hat.2 e); omega
    have HIA := Lib.hid hia
    clear hat hia hi hal
    go_wp2_with fail
    go_ret
    exact ⟨by rw [HIA.out]; rfl, cw⟩
  ·have hia : atN l day = i := by omega
   have HIA := Lib.hid hia
   clear hia hi hal
   go_wp2_with fail
   go_ret
   exact ⟨by rw [HIA.out]; rfl, cw⟩
end Go.Proofs.YtaanicginfjgdaaGreatDoor.Pp
