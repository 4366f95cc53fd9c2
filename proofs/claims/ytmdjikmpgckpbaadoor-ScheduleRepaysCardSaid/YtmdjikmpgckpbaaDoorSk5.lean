/-
  Schedules: Rest, Total, Until, Same: the program's and the reference's.
-/
import Derived.Test.YtmdjikmpgckpbaaDoorSr
import Derived.Test.YtmdjikmpgckpbaaDoorSm4
import Derived.Test.YtmdjikmpgckpbaaDoorLnm
import Derived.BigQuiet
import Derived.Deep.Cut
namespace Go.Proofs.YtmdjikmpgckpbaaDoor.Kl
open Go Go.RowKit
open Go.Proofs.YtmdjikmpgckpbaaDoor
open Go.Proofs.YtmdjikmpgckpbaaDoor.Sr
open Go.Proofs.YtmdjikmpgckpbaaDoor.Ln (Tm Du DuesIn P I P_nil I_nil P_succ I_succ due_succ)
set_option linter.unusedSimpArgs false
set_option linter.unusedVariables false
set_option maxRecDepth 100000

/-- Where the loops stand. -/
def ToR (w : World) (ds : List Du) (g : Nat) (s4 s5 s10 : Value) (W : World) : Prop := ∃ k : Nat, k + g = ds.length ∧ s10 = .int .i64 k ∧ s4 = .int .i64 (P (ds.take k)) ∧ s5 = .int .i64 (I (ds.take k)) ∧ Below w.heap.size w W
def ReR (w : World) (p : Int) (ds : List Du) (no : Int) (g : Nat) (s4 s10 : Value) (W : World) : Prop := ∃ k : Nat, k + g = ds.length ∧ s10 = .int .i64 k ∧ s4 = .int .i64 (rsW p (ds.take k) no) ∧ Below w.heap.size w W
def UnR (w : World) (ds : List Du) (day : Int) (g : Nat) (s5 s10 : Value) (W : World) : Prop := ∃ k : Nat, k + g = ds.length ∧ s10 = .int .i64 k ∧ DV W w.heap.size s5 (Ln.due (ds.take k) day) ∧ Below w.heap.size w W
def SaR (w : World) (n : Nat) (g : Nat) (s5 : Value) (W : World) : Prop := ∃ k : Nat, k + g = n ∧ s5 = .int .i64 k ∧ Below w.heap.size w W
/-- Installments up to a day, as a call returns them. -/
def UnOut (ds : List Du) (day : Int) (w : World) (e : Ending) (w' : World) : Prop := ∃ a cap, e = .returned (.slice a (Ln.due ds day).length cap) ∧ DuesIn w' a (Ln.due ds day) ∧ Below w.heap.size w w'
theorem due_len (ds : List Du) (day : Int) (k : Nat) : (Ln.due (ds.take k) day).length ≤ ds.length := by
  unfold Ln.due
  refine Nat.le_trans (List.length_filter_le _ _) ?_
  rw [List.length_take]; omega
set_option maxHeartbeats 2000000 in
theorem stotal_any (a : Option Addr) (cap : Nat) (ds : List Du) (w : World) (h : DuesIn w a ds) :
    Calls Tryd.prog 19 #[.slice a ds.length cap] w fun e w' => e = .returned (.tuple #[.int .i64 (P ds), .int .i64 (I ds)]) ∧ Below w.heap.size w w' := by
  have H := Lib.hid h
  have hn := h.1
  clear h
  go_enter Tryd.func19, Tryd.ntmps19
  go_wp2_with fail
  go_loopg [4, 5, 10] ds.length (ToR w ds)
  case atStart => exact ⟨0, by omega, rfl, by simp [P_nil], by simp [I_nil], Below.refl _ _⟩
  case round =>
    obtain ⟨k, hk, rfl, rfl, rfl, hbr⟩ := hrel
    by_cases hlt : k < ds.length
    · obtain ⟨b, off, rfl, hc⟩ := H.out.2 (by omega)
      obtain ⟨c0, c1, c2, c3⟩ := hc k hlt
      replace c0 := cell_later hbr c0
      replace c1 := cell_later hbr c1
      replace c2 := cell_later hbr c2
      replace c3 := cell_later hbr c3
      have HP := Lib.hid (P_succ hlt)
      have HI := Lib.hid (I_succ hlt)
      have hz := hbr.size
      clear hc
      generalize ds[k]! = d at *
      generalize P (ds.take k) = p at *
      generalize I (ds.take k) = i at *
      go_wp2_with fail
      go_region
      all_goals go_wp2_with fail
      go_roundg (gk - 1)
      case measure => omega
      case rel => exact ⟨k + 1, by omega, by go_num, by rw [HP.out], by rw [HI.out], (hbr.alloc hz _).drew⟩
    · have hkn : k = ds.length := by omega
      rw [hkn, List.take_length]
      clear hkn
      go_wp2_with fail
      go_ret2
      exact ⟨rfl, hbr⟩
set_option maxHeartbeats 2000000 in
theorem srtotal_any (a : Option Addr) (cap : Nat) (ds : List Du) (w : World) (h : DuesIn w a ds) :
    Calls Tryd.prog 20 #[.slice a ds.length cap] w fun e w' => e = .returned (.tuple #[.int .i64 (P ds), .int .i64 (I ds)]) ∧ Below w.heap.size w w' := by
  have H := Lib.hid h
  have hn := h.1
  clear h
  go_enter Tryd.func20, Tryd.ntmps20
  go_wp2_with fail
  go_loopg [4, 5, 6] ds.length (ToR w ds)
  case atStart => exact ⟨0, by omega, rfl, by simp [P_nil], by simp [I_nil], Below.refl _ _⟩
  case round =>
    obtain ⟨k, hk, rfl, rfl, rfl, hbr⟩ := hrel
    by_cases hlt : k < ds.length
    · obtain ⟨b, off, rfl, hc⟩ := H.out.2 (by omega)
      obtain ⟨c0, c1, c2, c3⟩ := hc k hlt
      replace c0 := cell_later hbr c0
      replace c1 := cell_later hbr c1
      replace c2 := cell_later hbr c2
      replace c3 := cell_later hbr c3
      have HP := Lib.hid (P_succ hlt)
      have HI := Lib.hid (I_succ hlt)
      have hz := hbr.size
      clear hc
      generalize ds[k]! = d at *
      generalize P (ds.take k) = p at *
      generalize I (ds.take k) = i at *
      go_wp2_with fail
      go_roundg (gk - 1)
      case measure => omega
      case rel => exact ⟨k + 1, by omega, by go_num, by rw [HP.out], by rw [HI.out], hbr⟩
    · have hkn : k = ds.length := by omega
      rw [hkn, List.take_length]
      clear hkn
      go_wp2_with fail
      go_ret2
      exact ⟨rfl, hbr⟩
set_option maxHeartbeats 2000000 in
theorem srest_any (t : Tm) (a : Option Addr) (cap : Nat) (ds : List Du) (no : Int) (w : World) (h : DuesIn w a ds) (hp : wrap64 t.pr = t.pr) :
    Calls Tryd.prog 21 #[(.agg #[.int .i64 (t).me, .int .i64 (t).pr, .int .i64 (t).ppm, .int .i64 (t).stt, .int .i64 (t).ev, .int .i64 (t).ct, .int .i64 (t).ba, .int .i64 (t).mo, .int .i64 (t).pen, .int .i64 (t).fe, .string (t).cal, .string (t).cur]), .slice a ds.length cap, .int .i64 no] w fun e w' => e = .returned (.int .i64 (rsW t.pr ds no)) ∧ Below w.heap.size w w' := by
  have cw : Below w.heap.size w (w.alloc (.cells #[.int .i64 (t).me, .int .i64 (t).pr, .int .i64 (t).ppm, .int .i64 (t).stt, .int .i64 (t).ev, .int .i64 (t).ct, .int .i64 (t).ba, .int .i64 (t).mo, .int .i64 (t).pen, .int .i64 (t).fe, .string (t).cal, .string (t).cur] 23)) := (Below.refl _ _).alloc (Nat.le_refl _) _
  have kt : Bk.Blk (w.alloc (.cells #[.int .i64 (t).me, .int .i64 (t).pr, .int .i64 (t).ppm, .int .i64 (t).stt, .int .i64 (t).ev, .int .i64 (t).ct, .int .i64 (t).ba, .int .i64 (t).mo, .int .i64 (t).pen, .int .i64 (t).fe, .string (t).cal, .string (t).cur] 23)) w.heap.size #[.int .i64 (t).me, .int .i64 (t).pr, .int .i64 (t).ppm, .int .i64 (t).stt, .int .i64 (t).ev, .int .i64 (t).ct, .int .i64 (t).ba, .int .i64 (t).mo, .int .i64 (t).pen, .int .i64 (t).fe, .string (t).cal, .string (t).cur] 23 := Bk.Blk.nw10
  have H := Lib.hid (h.later cw)
  have hn := h.1
  have HS0 := Lib.hid (show rsW t.pr (ds.take 0) no = t.pr by rw [List.take_zero, rsW_nil, hp])
  clear h hp
  go_enter Tryd.func21, Tryd.ntmps21
  go_upto_region 1 with fail
  generalize (w.alloc (.cells #[.int .i64 (t).me, .int .i64 (t).pr, .int .i64 (t).ppm, .int .i64 (t).stt, .int .i64 (t).ev, .int .i64 (t).ct, .int .i64 (t).ba, .int .i64 (t).mo, .int .i64 (t).pen, .int .i64 (t).fe, .string (t).cal, .string (t).cur] 23)) = w1 at *
  have l1 := kt.c1
  go_wp2_with fail
  clear l1
  go_loopg [7, 14] ds.length (ReR w1 t.pr ds no)
  case atStart => exact ⟨0, by omega, rfl, by rw [HS0.out], Below.refl _ _⟩
  case round =>
    obtain ⟨k, hk, rfl, rfl, hbr⟩ := hrel
    by_cases hlt : k < ds.length
    · obtain ⟨b, off, rfl, hc⟩ := H.out.2 (by omega)
      obtain ⟨c0, c1, c2, c3⟩ := hc k hlt
      replace c0 := cell_later hbr c0
      replace c1 := cell_later hbr c1
      replace c2 := cell_later hbr c2
      replace c3 := cell_later hbr c3
      have hz := hbr.size
      clear hc
      have hsu := rsW_succ (p := t.pr) (n := no) hlt
      by_cases hd : ds[k]!.no ≤ no
      · have HS := Lib.hid (hsu.trans (if_pos hd))
        clear hsu
        generalize ds[k]! = d at *
        generalize rsW t.pr (ds.take k) no = p at *
        go_wp2_with fail
        go_roundg (gk - 1)
        case measure => omega
        case rel => exact ⟨k + 1, by omega, by go_num, by rw [HS.out], (hbr.alloc hz _)⟩
      · have HS := Lib.hid (hsu.trans (if_neg hd))
        clear hsu
        generalize ds[k]! = d at *
        generalize rsW t.pr (ds.take k) no = p at *
        go_wp2_with fail
        go_roundg (gk - 1)
        case measure => omega
        case rel => exact ⟨k + 1, by omega, by go_num, by rw [HS.out], (hbr.alloc hz _)⟩
    · have hkn : k = ds.length := by omega
      rw [hkn, List.take_length]
      clear hkn
      go_wp2_with fail
      go_ret
      exact ⟨rfl, Ln.bl2 hbr cw⟩
set_option maxHeartbeats 2000000 in
theorem srrest_any (t : Tm) (a : Option Addr) (cap : Nat) (ds : List Du) (no : Int) (w : World) (h : DuesIn w a ds) (hp : wrap64 t.pr = t.pr) :
    Calls Tryd.prog 22 #[(.agg #[.int .i64 (t).me, .int .i64 (t).pr, .int .i64 (t).ppm, .int .i64 (t).stt, .int .i64 (t).ev, .int .i64 (t).ct, .int .i64 (t).ba, .int .i64 (t).mo, .int .i64 (t).pen, .int .i64 (t).fe, .string (t).cal, .string (t).cur]), .slice a ds.length cap, .int .i64 no] w fun e w' => e = .returned (.int .i64 (rsW t.pr ds no)) ∧ Below w.heap.size w w' := by
  have cw : Below w.heap.size w (w.alloc (.cells #[.int .i64 (t).me, .int .i64 (t).pr, .int .i64 (t).ppm, .int .i64 (t).stt, .int .i64 (t).ev, .int .i64 (t).ct, .int .i64 (t).ba, .int .i64 (t).mo, .int .i64 (t).pen, .int .i64 (t).fe, .string (t).cal, .string (t).cur] 23)) := (Below.refl _ _).alloc (Nat.le_refl _) _
  have kt : Bk.Blk (w.alloc (.cells #[.int .i64 (t).me, .int .i64 (t).pr, .int .i64 (t).ppm, .int .i64 (t).stt, .int .i64 (t).ev, .int .i64 (t).ct, .int .i64 (t).ba, .int .i64 (t).mo, .int .i64 (t).pen, .int .i64 (t).fe, .string (t).cal, .string (t).cur] 23)) w.heap.size #[.int .i64 (t).me, .int .i64 (t).pr, .int .i64 (t).ppm, .int .i64 (t).stt, .int .i64 (t).ev, .int .i64 (t).ct, .int .i64 (t).ba, .int .i64 (t).mo, .int .i64 (t).pen, .int .i64 (t).fe, .string (t).cal, .string (t).cur] 23 := Bk.Blk.nw10
  have H := Lib.hid (h.later cw)
  have hn := h.1
  have HS0 := Lib.hid (show rsW t.pr (ds.take 0) no = t.pr by rw [List.take_zero, rsW_nil, hp])
  clear h hp
  go_enter Tryd.func22, Tryd.ntmps22
  go_upto_region 1 with fail
  generalize (w.alloc (.cells #[.int .i64 (t).me, .int .i64 (t).pr, .int .i64 (t).ppm, .int .i64 (t).stt, .int .i64 (t).ev, .int .i64 (t).ct, .int .i64 (t).ba, .int .i64 (t).mo, .int .i64 (t).pen, .int .i64 (t).fe, .string (t).cal, .string (t).cur] 23)) = w1 at *
  have l1 := kt.c1
  go_wp2_with fail
  clear l1
  go_loopg [7, 8] ds.length (ReR w1 t.pr ds no)
  case atStart => exact ⟨0, by omega, rfl, by rw [HS0.out], Below.refl _ _⟩
  case round =>
    obtain ⟨k, hk, rfl, rfl, hbr⟩ := hrel
    by_cases hlt : k < ds.length
    · obtain ⟨b, off, rfl, hc⟩ := H.out.2 (by omega)
      obtain ⟨c0, c1, c2, c3⟩ := hc k hlt
      replace c0 := cell_later hbr c0
      replace c1 := cell_later hbr c1
      replace c2 := cell_later hbr c2
      replace c3 := cell_later hbr c3
      have hz := hbr.size
      clear hc
      have hsu := rsW_succ (p := t.pr) (n := no) hlt
      by_cases hd : ds[k]!.no ≤ no
      · have HS := Lib.hid (hsu.trans (if_pos hd))
        clear hsu
        generalize ds[k]! = d at *
        generalize rsW t.pr (ds.take k) no = p at *
        go_wp2_with fail
        go_roundg (gk - 1)
        case measure => omega
        case rel => exact ⟨k + 1, by omega, by go_num, by rw [HS.out], hbr⟩
      · have HS := Lib.hid (hsu.trans (if_neg hd))
        clear hsu
        generalize ds[k]! = d at *
        generalize rsW t.pr (ds.take k) no = p at *
        go_wp2_with fail
        go_roundg (gk - 1)
        case measure => omega
        case rel => exact ⟨k + 1, by omega, by go_num, by rw [HS.out], hbr⟩
    · have hkn : k = ds.length := by omega
      rw [hkn, List.take_length]
      clear hkn
      go_wp2_with fail
      go_ret
      exact ⟨rfl, Ln.bl2 hbr cw⟩
set_option maxHeartbeats 4000000 in
theorem suntil_any (a : Option Addr) (cap : Nat) (ds : List Du) (day : Int) (w : World) (h : DuesIn w a ds) (hlen : ds.length ≤ 1000000) :
    Calls Tryd.prog 23 #[.slice a ds.length cap, .int .i64 day] w (UnOut ds day w) := by
  have H := Lib.hid h
  clear h
  go_enter Tryd.func23, Tryd.ntmps23
  go_wp2_with fail
  go_loopg [5, 10] ds.length (UnR w ds day)
  case atStart => exact ⟨0, by omega, rfl, GV.nil _ _, Below.refl _ _⟩
  case round =>
    obtain ⟨k, hk, rfl, hdv, hbr⟩ := hrel
    by_cases hlt : k < ds.length
    · obtain ⟨b, off, rfl, hc⟩ := H.out.2 (by omega)
      obtain ⟨c0, c1, c2, c3⟩ := hc k hlt
      replace c0 := cell_later hbr c0
      replace c1 := cell_later hbr c1
      replace c2 := cell_later hbr c2
      replace c3 := cell_later hbr c3
      have hz := hbr.size
      clear hc
      have hsu := due_succ (day := day) hlt
      have hdl := due_len ds day k
      by_cases hd : ds[k]!.day ≤ day
      · have HS := Lib.hid (show Ln.due (ds.take (k + 1)) day = Ln.due (ds.take k) day ++ [ds[k]!] by rw [hsu, if_pos hd])
        clear hsu
        generalize ds[k]! = d at *
        generalize Ln.due (ds.take k) day = dl at *
        have hbq : Below wr.heap.size wr (wr.alloc (.cells #[.int .i64 d.no, .int .i64 d.day, .int .i64 d.pr, .int .i64 d.it] 44)) := (Below.refl _ _).alloc (Nat.le_refl _) _
        have hkq := Bk.Blk.nw10 (W := wr) (cs := #[.int .i64 d.no, .int .i64 d.day, .int .i64 d.pr, .int .i64 d.it]) (t := 44)
        go_upto_region 5 with fail
        generalize wr.alloc (.cells #[.int .i64 d.no, .int .i64 d.day, .int .i64 d.pr, .int .i64 d.it] 44) = wq at *
        replace hdv := hdv.later hbq
        replace hbr := Ln.bl2 hbq hbr
        have hz2 := hbr.size
        have e0 := hkq.c0
        have e1 := hkq.c1
        have e2 := hkq.c2
        have e3 := hkq.c3
        clear c0 c1 c2 c3 hbq
        go_wp2_with (at_builtin; refine app_due d rfl _ _ rfl rfl hdv rfl (by omega) hz2 ?_)
        intro v' w7 hdv' hgr hat
        have cw7 := grown_below hbr hdv hgr
        clear hgr hat hdv hbr
        have HDV := Lib.hid hdv'
        clear hdv'
        go_wp2_with fail
        go_roundg (gk - 1)
        case measure => omega
        case rel => exact ⟨k + 1, by omega, by go_num, by rw [HS.out]; exact HDV.out, cw7⟩
      · have HS := Lib.hid (show Ln.due (ds.take (k + 1)) day = Ln.due (ds.take k) day by rw [hsu, if_neg hd, List.append_nil])
        clear hsu
        generalize ds[k]! = d at *
        generalize Ln.due (ds.take k) day = dl at *
        have HDV := Lib.hid hdv
        clear hdv
        go_wp2_with fail
        go_roundg (gk - 1)
        case measure => omega
        case rel => exact ⟨k + 1, by omega, by go_num, by rw [HS.out]; exact HDV.out.later ((Below.refl wr.heap.size wr).alloc (Nat.le_refl _) _), (hbr.alloc hz _)⟩
    · have hkn : k = ds.length := by omega
      rw [hkn, List.take_length] at hdv
      clear hkn
      have hdl := due_len ds day ds.length
      rw [List.take_length] at hdl
      obtain ⟨da, dc, rfl, hr, hf⟩ := hdv.row
      have HR := Lib.hid (Ln.dues_of_row (by omega) hr)
      clear hdv hr hdl
      go_wp2_with fail
      go_ret
      exact ⟨da, dc, rfl, HR.out, hbr⟩
set_option maxHeartbeats 4000000 in
theorem sruntil_any (a : Option Addr) (cap : Nat) (ds : List Du) (day : Int) (w : World) (h : DuesIn w a ds) (hlen : ds.length ≤ 1000000) :
    Calls Tryd.prog 24 #[.slice a ds.length cap, .int .i64 day] w (UnOut ds day w) := by
  have H := Lib.hid h
  clear h
  go_enter Tryd.func24, Tryd.ntmps24
  go_wp2_with fail
  go_loopg [5, 6] ds.length (UnR w ds day)
  case atStart => exact ⟨0, by omega, rfl, GV.nil _ _, Below.refl _ _⟩
  case round =>
    obtain ⟨k, hk, rfl, hdv, hbr⟩ := hrel
    by_cases hlt : k < ds.length
    · obtain ⟨b, off, rfl, hc⟩ := H.out.2 (by omega)
      obtain ⟨c0, c1, c2, c3⟩ := hc k hlt
      replace c0 := cell_later hbr c0
      replace c1 := cell_later hbr c1
      replace c2 := cell_later hbr c2
      replace c3 := cell_later hbr c3
      have hz := hbr.size
      clear hc
      have hsu := due_succ (day := day) hlt
      have hdl := due_len ds day k
      by_cases hd : ds[k]!.day ≤ day
      · have HS := Lib.hid (show Ln.due (ds.take (k + 1)) day = Ln.due (ds.take k) day ++ [ds[k]!] by rw [hsu, if_pos hd])
        clear hsu
        generalize ds[k]! = d at *
        generalize Ln.due (ds.take k) day = dl at *
        go_wp2_with (at_builtin; refine app_due d rfl _ _ rfl rfl hdv rfl (by omega) hz ?_)
        intro v' w7 hdv' hgr hat
        have cw7 := grown_below hbr hdv hgr
        clear hgr hat hdv hbr
        have HDV := Lib.hid hdv'
        clear hdv'
        go_wp2_with fail
        go_roundg (gk - 1)
        case measure => omega
        case rel => exact ⟨k + 1, by omega, by go_num, by rw [HS.out]; exact HDV.out, cw7⟩
      · have HS := Lib.hid (show Ln.due (ds.take (k + 1)) day = Ln.due (ds.take k) day by rw [hsu, if_neg hd, List.append_nil])
        clear hsu
        generalize ds[k]! = d at *
        generalize Ln.due (ds.take k) day = dl at *
        have HDV := Lib.hid hdv
        clear hdv
        go_wp2_with fail
        go_roundg (gk - 1)
        case measure => omega
        case rel => exact ⟨k + 1, by omega, by go_num, by rw [HS.out]; exact HDV.out, hbr⟩
    · have hkn : k = ds.length := by omega
      rw [hkn, List.take_length] at hdv
      clear hkn
      have hdl := due_len ds day ds.length
      rw [List.take_length] at hdl
      obtain ⟨da, dc, rfl, hr, hf⟩ := hdv.row
      have HR := Lib.hid (Ln.dues_of_row (by omega) hr)
      clear hdv hr hdl
      go_wp2_with fail
      go_ret
      exact ⟨da, dc, rfl, HR.out, hbr⟩
set_option maxHeartbeats 4000000 in
theorem rsame_any (a1 a2 : Option Addr) (k1 k2 : Nat) (xs : List Du) (w : World) (h1 : DuesIn w a1 xs) (h2 : DuesIn w a2 xs) :
    Calls Tryd.prog 18 #[.slice a1 xs.length k1, .slice a2 xs.length k2] w fun e w' => e = .returned (.bool true) ∧ Below w.heap.size w w' := by
  have H1 := Lib.hid h1
  have H2 := Lib.hid h2
  have hn := h1.1
  clear h1 h2
  go_enter Tryd.func18, Tryd.ntmps18
  go_wp2_with fail
  go_loopg [5] xs.length (SaR w xs.length)
  case atStart => exact ⟨0, by omega, rfl, Below.refl _ _⟩
  case round =>
    obtain ⟨k, hk, rfl, hbr⟩ := hrel
    by_cases hlt : k < xs.length
    · obtain ⟨b, off, rfl, hc⟩ := H1.out.2 (by omega)
      obtain ⟨b', off', rfl, hd⟩ := H2.out.2 (by omega)
      obtain ⟨c0, c1, c2, c3⟩ := hc k hlt
      obtain ⟨d0, d1, d2, d3⟩ := hd k hlt
      replace c0 := cell_later hbr c0; replace c1 := cell_later hbr c1; replace c2 := cell_later hbr c2; replace c3 := cell_later hbr c3
      replace d0 := cell_later hbr d0; replace d1 := cell_later hbr d1; replace d2 := cell_later hbr d2; replace d3 := cell_later hbr d3
      clear hc hd
      generalize xs[k]! = x at *
      go_wp2_with fail
      go_region
      all_goals go_wp2_with fail
      go_roundg (gk - 1)
      case measure => omega
      case rel => exact ⟨k + 1, by omega, by go_num, hbr.drew⟩
    · go_wp2_with fail
      go_ret
      exact ⟨rfl, hbr⟩
end Go.Proofs.YtmdjikmpgckpbaaDoor.Kl
