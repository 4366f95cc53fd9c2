/-
 Schedules: Rest, Total, Until, Same: the program's and the reference's.
-/
import Derived.Test.YtaanicginfjgdaaGreatDoorSr
import Derived.Test.YtaanicginfjgdaaGreatDoorSma
import Derived.Test.YtaanicginfjgdaaGreatDoorLnm
import Derived.BigQuiet
import Derived.Deep.Cut
namespace Go.Proofs.YtaanicginfjgdaaGreatDoor.Kl
open Go Go.RowKit
open Go.Proofs.YtaanicginfjgdaaGreatDoor
open Go.Proofs.YtaanicginfjgdaaGreatDoor.Sr
open Go.Proofs.YtaanicginfjgdaaGreatDoor.Ln (Tm Du DuesIn P I P_nil I_nil P_succ I_succ due_succ)
set_option linter.unusedSimpArgs false
set_option linter.unusedVariables false
set_option maxRecDepth 100000

def ToR (w : World) (ds : List Du) (g : Nat) (s4 s5 s10 : Value) (W : World) : Prop := ∃ k : Nat, k + g = ds.length ∧ s10 = .int .i64 k ∧ s4 = .int .i64 (P (ds.take k)) ∧ s5 = .int .i64 (I (ds.take k)) ∧ Below w.heap.size w W
def ReR (w : World) (p : Int) (ds : List Du) (no : Int) (g : Nat) (s4 s10 : Value) (W : World) : Prop := ∃ k : Nat, k + g = ds.length ∧ s10 = .int .i64 k ∧ s4 = .int .i64 (rsW p (ds.take k) no) ∧ Below w.heap.size w W
def UnR (w : World) (ds : List Du) (day : Int) (g : Nat) (s5 s10 : Value) (W : World) : Prop := ∃ k : Nat, k + g = ds.length ∧ s10 = .int .i64 k ∧ DV W w.heap.size s5 (Ln.due (ds.take k) day) ∧ Below w.heap.size w W
def SaR (w : World) (n : Nat) (g : Nat) (s5 : Value) (W : World) : Prop := ∃ k : Nat, k + g = n ∧ s5 = .int .i64 k ∧ Below w.heap.size w W
def UnOut (ds : List Du) (day : Int) (w : World) (e : Ending) (w' : World) : Prop := ∃ a cap, e = .returned (.slice a (Ln.due ds day).length cap) ∧ DuesIn w' a (Ln.due ds day) ∧ Below w.heap.size w w'
theorem due_len (ds : List Du) (day : Int) (k : Nat) : (Ln.due (ds.take k) day).length ≤ ds.length := by
 unfold Ln.due
 refine Nat.le_trans (List.length_filter_le _ _) ?_
 rw [List.length_take]; omega
set_option maxHeartbeats 2000000 in
theorem stotal_any (a : Option Addr) (cap : Nat) (ds : List Du) (w : World) (h : DuesIn w a ds) :
  Calls Tryz.prog 32 #[.slice a ds.length cap] w fun e w' => e = .returned (.tuple #[.int .i64 (P ds), .int .i64 (I ds)]) ∧ Below w.heap.size w w' := by
 have H := Lib.hid h
 have hn := h.1
 clear h
 go_enter Tryz.func32, Tryz.ntmps32
 go_wp2_with fail
 go_loopg [4, 5, 10] ds.length (ToR w ds)
 case atStart => exact ⟨0, by omega, rfl, by simp [P_nil], by simp [I_nil], Below.refl _ _⟩
 case round =>
  obtain ⟨k, hk, rfl, rfl, rfl, hbr⟩ := hrel
  by_cases hlt : k < ds.length
  ·obtain ⟨b, off, rfl, hc⟩ := H.out.2 (by omega)
   obtain ⟨c0, c1, c2, c3⟩ := hc k hlt
   replace c0 := cell_later hbr c0
   replace c1 := cell_later hbr c1
   replace c2 := cell_later hbr c2
   replace c3 := cell_later hbr c3
   have HP := Lib.hid (P_succ hlt)
   have HI := Lib.hid (I_succ hlt)
   have hz := hbr.size
   clear hc
   generalize ds[k]! = d at *
   generalize P (ds.take k) = p at *
   generalize I (ds.take k) = i at *
   go_wp2_with fail
   go_region
   all_goals go_wp2_with fail
   go_roundg (gk - 1)
   case measure => omega
   case rel => exact ⟨k + 1, by omega, by go_num, by rw [HP.out], by rw [HI.out], (hbr.alloc hz _).drew⟩
  ·have hkn : k = ds.length := by omega
   rw [hkn, List.take_length]
   clear hkn
   go_wp2_with fail
   go_ret2
   exact ⟨rfl, hbr⟩
set_option maxHeartbeats 4000000 in
theorem suntil_any (a : Option Addr) (cap : Nat) (ds : List Du) (day : Int) (w : World) (h : DuesIn w a ds) (hlen : ds.length ≤ 1000000) :
  Calls Tryz.prog 66 #[.slice a ds.length cap, .int .i64 day] w (UnOut ds day w) := by
 have H := Lib.hid h
 clear h
 go_enter Tryz.func66, Tryz.ntmps66
 go_wp2_with fail
 go_loopg [5, 10] ds.length (UnR w ds day)
 case atStart => exact ⟨0, by omega, rfl, GV.nil _ _, Below.refl _ _⟩
 case round =>
  obtain ⟨k, hk, rfl, hdv, hbr⟩ := hrel
  by_cases hlt : k < ds.length
  ·obtain ⟨b, off, rfl, hc⟩ := H.out.2 (by omega)
   obtain ⟨c0, c1, c2, c3⟩ := hc k hlt
   replace c0 := cell_later hbr c0
   replace c1 := cell_later hbr c1
   replace c2 := cell_later hbr c2
   replace c3 := cell_later hbr c3
   have hz := hbr.size
   clear hc
   have hsu := due_succ (day := day) hlt
   have hdl := due_len ds day k
   by_cases hd : ds[k]!.day ≤ day
   ·have HS := Lib.hid (show Ln.due (ds.take (k + 1)) day = Ln.due (ds.take k) day ++ [ds[k]!] by rw [hsu, if_pos hd])
    clear hsu
    generalize ds[k]! = d at *
    generalize Ln.due (ds.take k) day = dl at *
    have hbq : Below wr.heap.size wr (wr.alloc (.cells #[.int .i64 d.no, .int .i64 d.day, .int .i64 d.pr, .int .i64 d.it] 53)) := (Below.refl _ _).alloc (Nat.le_refl _) _
    have hkq := Bk.Blk.nw10 (W := wr) (cs := #[.int .i64 d.no, .int .i64 d.day, .int .i64 d.pr, .int .i64 d.it]) (t := 53)
    go_upto_region 5 with fail
    generalize wr.alloc (.cells _ 53) = wq at *
    replace hdv := hdv.later hbq
    replace hbr := Ln.bl2 hbq hbr
    have hz2 := hbr.size
    have e0 := hkq.c0
    have e1 := hkq.c1
    have e2 := hkq.c2
    have e3 := hkq.c3
    clear c0 c1 c2 c3 hbq
    go_wp2_with (at_builtin; refine app_due d rfl _ _ rfl rfl hdv rfl (by omega) hz2 ?_)
    intro v' w7 hdv' hgr hat
    have cw7 := grown_below hbr hdv hgr
    clear hgr hat hdv hbr
    have HDV := Lib.hid hdv'
    clear hdv'
    go_wp2_with fail
    go_roundg (gk - 1)
    case measure => omega
    case rel => exact ⟨k + 1, by omega, by go_num, by rw [HS.out]; exact HDV.out, cw7⟩
   ·have HS := Lib.hid (show Ln.due (ds.take (k + 1)) day = Ln.due (ds.take k) day by rw [hsu, if_neg hd, List.append_nil])
    clear hsu
    generalize ds[k]! = d at *
    generalize Ln.due (ds.take k) day = dl at *
    have HDV := Lib.hid hdv
    clear hdv
    go_wp2_with fail
    go_roundg (gk - 1)
    case measure => omega
    case rel => exact ⟨k + 1, by omega, by go_num, by rw [HS.out]; exact HDV.out.later ((Below.refl wr.heap.size wr).alloc (Nat.le_refl _) _), (hbr.alloc hz _)⟩
  ·have hkn : k = ds.length := by omega
   rw [hkn, List.take_length] at hdv
   clear hkn
   have hdl := due_len ds day ds.length
   rw [List.take_length] at hdl
   obtain ⟨da, dc, rfl, hr, hf⟩ := hdv.row
   have HR := Lib.hid (Ln.dues_of_row (by omega) hr)
   clear hdv hr hdl
   go_wp2_with fail
   go_ret
   exact ⟨da, dc, rfl, HR.out, hbr⟩
end Go.Proofs.YtaanicginfjgdaaGreatDoor.Kl
