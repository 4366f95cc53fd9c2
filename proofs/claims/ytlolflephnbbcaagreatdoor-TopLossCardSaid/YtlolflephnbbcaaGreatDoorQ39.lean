/-
  Parts of the proof: Kca.
-/
import Derived.Test.YtlolflephnbbcaaGreatDoorQ32
import Derived.Test.YtlolflephnbbcaaGreatDoorQ21
import Derived.Test.YtlolflephnbbcaaGreatDoorQ03
import Derived.WalkKit
import Derived.Laws.RangeAny
import Derived.Deep.LoopGhost
import Derived.Test.YtlolflephnbbcaaGreatDoorChecked
import Derived.ProofKit
import Derived.BigFrame
import Derived.BigQuiet
import Derived.Deep.Cut
namespace Go.Proofs.YtlolflephnbbcaaGreatDoor.Dt
open Go.RowKit
open Go.Proofs.YtlolflephnbbcaaGreatDoor.Cal
open Go.Proofs.YtlolflephnbbcaaGreatDoor.Kl
set_option maxRecDepth 100000

theorem wday_any (d : Int) (w : World) (h0 : 0 ≤ d) (h1 : d ≤ 73048) : Calls Tryz.prog 193 #[.int .i64 d] w fun e w' => e = .returned (.int .i64 ((d + 5) % 7)) ∧ w = w' := by
 go_enter Tryz.func193, Tryz.ntmps193
 go_wp2_with (go_at_call 71; refine (valid_yes d _ h0 h1).mono ?_; rintro e w' ⟨rfl, rfl⟩)
 go_ret
 exact ⟨rfl, rfl⟩
theorem mend_any (d : Int) (w : World) (h0 : 0 ≤ d) (h1 : d ≤ 73048) : Calls Tryz.prog 119 #[.int .i64 d] w fun e w' => e = .returned (.int .i64 (mend d)) ∧ Below w.heap.size w w' := by
 have hc := civ_spec d h0 h1
 obtain ⟨y0, y1, m0, m1, k0, k1⟩ : 2000 ≤ cy d ∧ cy d ≤ 2199 ∧ 1 ≤ cm d ∧ cm d ≤ 12 ∧ 1 ≤ ck d ∧ ck d ≤ mlen (cy d) (cm d) := ⟨hc.y0, hc.y1, hc.m0, hc.m1, hc.k0, hc.k1⟩
 have ml := mlen_bd (cy d) (cm d) m0 m1
 have HC := Lib.hid (civil_any d w h0 h1)
 have HM := Lib.hid (show mend d = d - ck d + mlen (cy d) (cm d) from rfl)
 clear hc
 generalize cy d = y at *
 generalize cm d = m at *
 generalize ck d = k at *
 generalize mend d = r at *
 go_enter Tryz.func119, Tryz.ntmps119
 go_wp2_with (go_at_call 71; refine (valid_yes d _ h0 h1).mono ?_; rintro e w' ⟨rfl, rfl⟩)
 refine HC.out.mono ?_
 rintro e w1 ⟨rfl, hb1⟩
 go_wp2_with fail
 refine (length_any _ _ _ (by omega) m0 m1).mono ?_
 rintro e w2 ⟨rfl, hb2⟩
 go_wp2_with fail
 go_ret
 exact ⟨ret_int (by rw [HM.out]), bstep hb1 hb1.size hb2⟩
set_option maxHeartbeats 1000000 in
theorem addm_any (d n a : Int) (w : World) (h0 : 0 ≤ d) (h1 : d ≤ 73048) (n0 : -2400 ≤ n) (n1 : n ≤ 2400) (a0 : 1 ≤ a) (a1 : a ≤ 31) :
  Calls Tryz.prog 74 #[.int .i64 d, .int .i64 n, .int .i64 a] w fun e w' => e = .returned (.tuple #[.int .i64 (oV (addM d n a)), .int .i64 (oE (addM d n a) 1)]) ∧ Below w.heap.size w w' := by
 have hc := civ_spec d h0 h1
 obtain ⟨y0, y1, m0, m1⟩ : 2000 ≤ cy d ∧ cy d ≤ 2199 ∧ 1 ≤ cm d ∧ cm d ≤ 12 := ⟨hc.y0, hc.y1, hc.m0, hc.m1⟩
 have HC := Lib.hid (civil_any d w h0 h1)
 by_cases hM : 24000 ≤ 12 * cy d + cm d - 1 + n ∧ 12 * cy d + cm d - 1 + n < 26400
 ·rw [addM_ok hM]
  show Calls _ _ _ _ fun e w' => e = .returned (.tuple #[.int .i64 _, .int .i64 0]) ∧ _
  obtain ⟨h2, h3⟩ := hM
  clear hc
  generalize cy d = y at *
  generalize cm d = m at *
  generalize ck d = k at *
  have ml := mlen_bd ((12 * y + m - 1 + n) / 12) ((12 * y + m - 1 + n) % 12 + 1) (by omega) (by omega)
  by_cases hk : a ≤ mlen ((12 * y + m - 1 + n) / 12) ((12 * y + m - 1 + n) % 12 + 1)
  ·have HK := Lib.hid (Int.min_eq_left hk)
   have HD := Lib.hid (fun (W : World) => day_yes ((12 * y + m - 1 + n) / 12) ((12 * y + m - 1 + n) % 12 + 1) a W ⟨by omega, by omega, by omega, by omega, by omega, by omega⟩)
   go_enter Tryz.func74, Tryz.ntmps74
   go_wp2_with (go_at_call 71; refine (valid_yes d _ h0 h1).mono ?_; rintro e w' ⟨rfl, rfl⟩)
   refine HC.out.mono ?_
   rintro e w1 ⟨rfl, hb1⟩
   go_wp2_with fail
   refine (length_any _ _ _ (by omega) (by omega) (by omega)).mono ?_
   rintro e w2 ⟨rfl, hb2⟩
   go_wp2_with fail
   refine (HD.out _).mono ?_
   rintro e w3 ⟨rfl, hb3⟩
   go_wp2_with fail
   go_ret2
   exact ⟨by rw [HK.out]; rfl, bstep (bstep hb1 hb1.size hb2) (Nat.le_trans hb1.size hb2.size) hb3⟩
  ·have HK := Lib.hid (Int.min_eq_right (show mlen ((12 * y + m - 1 + n) / 12) ((12 * y + m - 1 + n) % 12 + 1) ≤ a by omega))
   have HD := Lib.hid (fun (W : World) => day_yes ((12 * y + m - 1 + n) / 12) ((12 * y + m - 1 + n) % 12 + 1) (mlen ((12 * y + m - 1 + n) / 12) ((12 * y + m - 1 + n) % 12 + 1)) W ⟨by omega, by omega, by omega, by omega, by omega, by omega⟩)
   go_enter Tryz.func74, Tryz.ntmps74
   go_wp2_with (go_at_call 71; refine (valid_yes d _ h0 h1).mono ?_; rintro e w' ⟨rfl, rfl⟩)
   refine HC.out.mono ?_
   rintro e w1 ⟨rfl, hb1⟩
   go_wp2_with fail
   refine (length_any _ _ _ (by omega) (by omega) (by omega)).mono ?_
   rintro e w2 ⟨rfl, hb2⟩
   go_wp2_with fail
   refine (HD.out _).mono ?_
   rintro e w3 ⟨rfl, hb3⟩
   go_wp2_with fail
   go_ret2
   exact ⟨by rw [HK.out]; rfl, bstep (bstep hb1 hb1.size hb2) (Nat.le_trans hb1.size hb2.size) hb3⟩
 ·rw [addM_no hM]
  show Calls _ _ _ _ fun e w' => e = .returned (.tuple #[.int .i64 0, .int .i64 1]) ∧ _
  clear hc
  generalize cy d = y at *
  generalize cm d = m at *
  generalize ck d = k at *
  by_cases h2 : 12 * y + m - 1 + n < 24000
  ·go_enter Tryz.func74, Tryz.ntmps74
   go_wp2_with (go_at_call 71; refine (valid_yes d _ h0 h1).mono ?_; rintro e w' ⟨rfl, rfl⟩)
   refine HC.out.mono ?_
   rintro e w1 ⟨rfl, hb1⟩
   go_wp2_with fail
   go_ret2
   exact ⟨rfl, hb1⟩
  ·have h3 : 26400 ≤ 12 * y + m - 1 + n := by omega
   go_enter Tryz.func74, Tryz.ntmps74
   go_wp2_with (go_at_call 71; refine (valid_yes d _ h0 h1).mono ?_; rintro e w' ⟨rfl, rfl⟩)
   refine HC.out.mono ?_
   rintro e w1 ⟨rfl, hb1⟩
   go_wp2_with fail
   go_ret2
   exact ⟨rfl, hb1⟩
end Go.Proofs.YtlolflephnbbcaaGreatDoor.Dt

namespace Go.Proofs.YtlolflephnbbcaaGreatDoor.Kl
open Go.RowKit
open Go.Proofs.YtlolflephnbbcaaGreatDoor
set_option linter.unusedSimpArgs false

def NmR (w : World) (s : ByteArray) (p : Nat → Bool) (g : Nat) (s8 : Value) (W : World) : Prop := ∃ i : Nat, i + g = s.size ∧ s8 = .int .i64 i ∧ (∀ j, j < i → p j = true) ∧ w = W
theorem nm_step {p : Nat → Bool} {i : Nat} (h : ∀ j, j < i → p j = true) (hi : p i = true) : ∀ j, j < i + 1 → p j = true := fun j hj => by
 by_cases e : j = i
 ·subst e; exact hi
 ·exact h j (by omega)
theorem nameB_no {s : ByteArray} {i : Nat} (hi : i < s.size) (h : nmB i (byt s i) = false) : nameB s = false := by
 unfold nameB
 rw [upto_no hi h, Bool.and_false]
theorem nameB_all {s : ByteArray} (h : ∀ j, j < s.size → nmB j (byt s j) = true) : nameB s = (decide (1 ≤ s.size) && decide (s.size ≤ 16)) := by
 unfold nameB
 rw [upto_yes h, Bool.and_true]
theorem codeB_no {s : ByteArray} {i : Nat} (hi : i < s.size) (h : upB (byt s i) = false) : codeB s = false := by
 unfold codeB
 rw [upto_no hi h, Bool.and_false]
theorem codeB_all {s : ByteArray} (h : ∀ j, j < s.size → upB (byt s j) = true) : codeB s = decide (s.size = 3) := by
 unfold codeB
 rw [upto_yes h, Bool.and_true]
set_option maxHeartbeats 4000000 in
theorem name_any (s : ByteArray) (w : World) (hs : s.size ≤ maxLen) : Calls Tryz.prog 154 #[.string s] w fun e w' => e = .returned (.bool (nameB s)) ∧ w = w' := by
 have hm : s.size ≤ 9223372036854775807 := by unfold maxLen at hs; omega
 clear hs
 go_enter Tryz.func154, Tryz.ntmps154
 go_wp2_with fail
 go_loopg [8] s.size (NmR w s (fun j => nmB j (byt s j)))
 case atStart => exact ⟨0, by omega, rfl, fun j hj => by omega, rfl⟩
 case round =>
  obtain ⟨i, hi, rfl, hall, rfl⟩ := hrel
  have HA := Lib.hid hall
  clear hall
  by_cases hlt : i < s.size
  ·have hb := byt_get hlt
   have hc := (s[i]'hlt).toNat_lt
   by_cases a1 : 97 ≤ byt s i
   ·by_cases a2 : byt s i ≤ 122
    ·have HP := Lib.hid (show nmB i (byt s i) = true by unfold nmB letB; simp; omega)
     go_wp2_with fail
     go_roundg (gk - 1)
     case measure => omega
     case rel => exact ⟨i + 1, by omega, by go_num, nm_step HA.out HP.out, rfl⟩
    ·have gd : decide ((byt s i : Int) ≤ 122) = false := decide_eq_false (by omega)
     by_cases i0 : i = 0
     ·subst i0
      have HF := Lib.hid (nameB_no hlt (show nmB 0 (byt s 0) = false by unfold nmB letB; simp; omega))
      go_wp2_with fail
      go_ret
      exact ⟨by rw [HF.out]; try rfl, rfl⟩
     ·have g0 : ((i : Int) == 0) = false := by simp; omega
      have g95 : ((byt s i : Int) != 95) = true := by simp; omega
      have g48 : decide ((byt s i : Int) < 48) = false := by simp; omega
      have g57 : decide (57 < (byt s i : Int)) = true := by simp; omega
      have HF := Lib.hid (nameB_no hlt (show nmB i (byt s i) = false by unfold nmB letB; simp; omega))
      go_wp2_with fail
      go_ret
      exact ⟨by rw [HF.out]; try rfl, rfl⟩
   ·by_cases i0 : i = 0
    ·subst i0
     have HF := Lib.hid (nameB_no hlt (show nmB 0 (byt s 0) = false by unfold nmB letB; simp; omega))
     go_wp2_with fail
     go_ret
     exact ⟨by rw [HF.out]; try rfl, rfl⟩
    ·have g0 : ((i : Int) == 0) = false := by simp; omega
     by_cases c95 : byt s i = 95
     ·have g95 : ((byt s i : Int) != 95) = false := by simp; omega
      have HP := Lib.hid (show nmB i (byt s i) = true by unfold nmB letB; simp; omega)
      go_wp2_with fail
      go_roundg (gk - 1)
      case measure => omega
      case rel => exact ⟨i + 1, by omega, by go_num, nm_step HA.out HP.out, rfl⟩
     ·have g95 : ((byt s i : Int) != 95) = true := by simp; omega
      by_cases c48 : byt s i < 48
      ·have g48 : decide ((byt s i : Int) < 48) = true := by simp; omega
       have HF := Lib.hid (nameB_no hlt (show nmB i (byt s i) = false by unfold nmB letB; simp; omega))
       go_wp2_with fail
       go_ret
       exact ⟨by rw [HF.out]; try rfl, rfl⟩
      ·have g48 : decide ((byt s i : Int) < 48) = false := by simp; omega
       by_cases c57 : 57 < byt s i
       ·have g57 : decide (57 < (byt s i : Int)) = true := by simp; omega
        have HF := Lib.hid (nameB_no hlt (show nmB i (byt s i) = false by unfold nmB letB; simp; omega))
        go_wp2_with fail
        go_ret
        exact ⟨by rw [HF.out]; try rfl, rfl⟩
       ·have g57 : decide (57 < (byt s i : Int)) = false := by simp; omega
        have HP := Lib.hid (show nmB i (byt s i) = true by unfold nmB letB; simp; omega)
        go_wp2_with fail
        go_roundg (gk - 1)
        case measure => omega
        case rel => exact ⟨i + 1, by omega, by go_num, nm_step HA.out HP.out, rfl⟩
  ·have hin : i = s.size := by omega
   have HU := Lib.hid (nameB_all (s := s) (fun j hj => HA.out j (by omega)))
   clear hin
   by_cases e1 : 1 ≤ s.size
   ·go_wp2_with fail
    go_ret
    exact ⟨by rw [HU.out]; exact Dt.ret_bool (Bool.eq_iff_iff.2 (by simp; omega)), rfl⟩
   ·go_wp2_with fail
    go_ret
    exact ⟨by rw [HU.out]; exact Dt.ret_bool (Bool.eq_iff_iff.2 (by simp; omega)), rfl⟩
set_option maxHeartbeats 4000000 in
theorem rname_any (s : ByteArray) (w : World) (hs : s.size ≤ maxLen) : Calls Tryz.prog 51 #[.string s] w fun e w' => e = .returned (.bool (nameB s)) ∧ w = w' := by
 have hm : s.size ≤ 9223372036854775807 := by unfold maxLen at hs; omega
 clear hs
 by_cases e1 : s.size < 1
 ·have HF := Lib.hid (show nameB s = false by unfold nameB; simp; omega)
  go_enter Tryz.func51, Tryz.ntmps51
  go_wp2_with fail
  go_ret
  exact ⟨by rw [HF.out]; try rfl, rfl⟩
 ·by_cases e2 : 16 < s.size
  ·have HF := Lib.hid (show nameB s = false by unfold nameB; simp; omega)
   go_enter Tryz.func51, Tryz.ntmps51
   go_wp2_with fail
   go_ret
   exact ⟨by rw [HF.out]; try rfl, rfl⟩
  ·have hb0 := byt_get (s := s) (j := 0) (by omega)
   have hc0 := (s[0]'(by omega)).toNat_lt
   by_cases f1 : byt s 0 < 97
   ·have HF := Lib.hid (nameB_no (i := 0) (by omega) (show nmB 0 (byt s 0) = false by unfold nmB letB; simp; omega))
    go_enter Tryz.func51, Tryz.ntmps51
    go_wp2_with fail
    go_ret
    exact ⟨by rw [HF.out]; try rfl, rfl⟩
   ·by_cases f2 : 122 < byt s 0
    ·have HF := Lib.hid (nameB_no (i := 0) (by omega) (show nmB 0 (byt s 0) = false by unfold nmB letB; simp; omega))
     go_enter Tryz.func51, Tryz.ntmps51
     go_wp2_with fail
     go_ret
     exact ⟨by rw [HF.out]; try rfl, rfl⟩
    ·go_enter Tryz.func51, Tryz.ntmps51
     go_wp2_with fail
     go_loopg [3] s.size (NmR w s (fun j => nmB j (byt s j)))
     case atStart => exact ⟨0, by omega, rfl, fun j hj => by omega, rfl⟩
     case round =>
      obtain ⟨i, hi, rfl, hall, rfl⟩ := hrel
      have HA := Lib.hid hall
      clear hall
      by_cases hlt : i < s.size
      ·have hb := byt_get hlt
       have hc := (s[i]'hlt).toNat_lt
       by_cases a1 : 97 ≤ byt s i
       ·by_cases a2 : byt s i ≤ 122
        ·have HP := Lib.hid (show nmB i (byt s i) = true by unfold nmB letB; simp; omega)
         go_wp2_with fail
         go_roundg (gk - 1)
         case measure => omega
         case rel => exact ⟨i + 1, by omega, by go_num, nm_step HA.out HP.out, rfl⟩
        ·have gd : decide (122 < (byt s i : Int)) = true := decide_eq_true (by omega)
         have hi0 : i ≠ 0 := by
          intro e
          rw [e] at a2
          omega
         have g95 : ((byt s i : Int) != 95) = true := by simp; omega
         have g48 : decide ((byt s i : Int) < 48) = false := by simp; omega
         have g57 : decide (57 < (byt s i : Int)) = true := by simp; omega
         have HF := Lib.hid (nameB_no hlt (show nmB i (byt s i) = false by unfold nmB letB; simp; omega))
         go_wp2_with fail
         go_ret
         exact ⟨by rw [HF.out]; try rfl, rfl⟩
       ·have hi0 : i ≠ 0 := by
         intro e
         rw [e] at a1
         omega
        by_cases c48 : byt s i < 48
        ·have g95 : ((byt s i : Int) != 95) = true := by simp; omega
         have g48 : decide ((byt s i : Int) < 48) = true := by simp; omega
         have HF := Lib.hid (nameB_no hlt (show nmB i (byt s i) = false by unfold nmB letB; simp; omega))
         go_wp2_with fail
         go_ret
         exact ⟨by rw [HF.out]; try rfl, rfl⟩
        ·have g48 : decide ((byt s i : Int) < 48) = false := by simp; omega
         by_cases c57 : 57 < byt s i
         ·have g57 : decide (57 < (byt s i : Int)) = true := by simp; omega
          by_cases c95 : byt s i = 95
          ·have g95 : ((byt s i : Int) != 95) = false := by simp; omega
           have HP := Lib.hid (show nmB i (byt s i) = true by unfold nmB letB; simp; omega)
           go_wp2_with fail
           go_roundg (gk - 1)
           case measure => omega
           case rel => exact ⟨i + 1, by omega, by go_num, nm_step HA.out HP.out, rfl⟩
          ·have g95 : ((byt s i : Int) != 95) = true := by simp; omega
           have HF := Lib.hid (nameB_no hlt (show nmB i (byt s i) = false by unfold nmB letB; simp; omega))
           go_wp2_with fail
           go_ret
           exact ⟨by rw [HF.out]; try rfl, rfl⟩
         ·have g57 : decide (57 < (byt s i : Int)) = false := by simp; omega
          have HP := Lib.hid (show nmB i (byt s i) = true by unfold nmB letB; simp; omega)
          go_wp2_with fail
          go_roundg (gk - 1)
          case measure => omega
          case rel => exact ⟨i + 1, by omega, by go_num, nm_step HA.out HP.out, rfl⟩
      ·have hin : i = s.size := by omega
       have HU := Lib.hid (nameB_all (s := s) (fun j hj => HA.out j (by omega)))
       clear hin
       go_wp2_with fail
       go_ret
       exact ⟨by rw [HU.out]; simp; omega, rfl⟩
set_option maxHeartbeats 4000000 in
theorem rcode_any (s : ByteArray) (w : World) (hs : s.size ≤ maxLen) : Calls Tryz.prog 27 #[.string s] w fun e w' => e = .returned (.bool (codeB s)) ∧ w = w' := by
 have hm : s.size ≤ 9223372036854775807 := by unfold maxLen at hs; omega
 clear hs
 by_cases e1 : s.size = 3
 ·go_enter Tryz.func27, Tryz.ntmps27
  go_wp2_with fail
  go_loopg [3] s.size (NmR w s (fun j => upB (byt s j)))
  case atStart => exact ⟨0, by omega, rfl, fun j hj => by omega, rfl⟩
  case round =>
   obtain ⟨i, hi, rfl, hall, rfl⟩ := hrel
   have HA := Lib.hid hall
   clear hall
   by_cases hlt : i < s.size
   ·have hb := byt_get hlt
    have hc := (s[i]'hlt).toNat_lt
    by_cases a1 : byt s i < 65
    ·have HF := Lib.hid (codeB_no hlt (show (fun j => upB (byt s j)) i = false by show upB (byt s i) = _; unfold upB; simp; omega))
     go_wp2_with fail
     go_ret
     exact ⟨by rw [HF.out]; try rfl, rfl⟩
    ·by_cases a2 : 90 < byt s i
     ·have HF := Lib.hid (codeB_no hlt (show (fun j => upB (byt s j)) i = false by show upB (byt s i) = _; unfold upB; simp; omega))
      go_wp2_with fail
      go_ret
      exact ⟨by rw [HF.out]; try rfl, rfl⟩
     ·have HP := Lib.hid (show (fun j => upB (byt s j)) i = true by show upB (byt s i) = _; unfold upB; simp; omega)
      go_wp2_with fail
      go_roundg (gk - 1)
      case measure => omega
      case rel => exact ⟨i + 1, by omega, by go_num, nm_step HA.out HP.out, rfl⟩
   ·have hin : i = s.size := by omega
    have HU := Lib.hid (codeB_all (s := s) (fun j hj => HA.out j (by omega)))
    clear hin
    go_wp2_with fail
    go_ret
    exact ⟨by rw [HU.out]; simp; omega, rfl⟩
 ·have HF := Lib.hid (show codeB s = false by unfold codeB; simp; omega)
  go_enter Tryz.func27, Tryz.ntmps27
  go_wp2_with fail
  go_ret
  exact ⟨by rw [HF.out]; try rfl, rfl⟩
def CdR (w : World) (s : ByteArray) (g : Nat) (s3 : Value) (W : World) : Prop := ∃ i : Nat, i + g = s.size ∧ s3 = .int .i64 i ∧ (∀ j, j < i → upB (byt s j) = true) ∧ W = w.iter s i
set_option maxHeartbeats 4000000 in
theorem code_any (s : ByteArray) (w : World) (hs : s.size ≤ maxLen) : Calls Tryz.prog 112 #[.string s] w fun e w' => e = .returned (.bool (codeB s)) ∧ Below w.heap.size w w' := by
 have hm : s.size ≤ 9223372036854775807 := by unfold maxLen at hs; omega
 clear hs
 go_enter Tryz.func112, Tryz.ntmps112
 go_wp2_with fail
 go_loopg [3] s.size (CdR w s)
 case atStart => exact ⟨0, by omega, rfl, fun j hj => by omega, rfl⟩
 case round =>
  obtain ⟨i, hi, rfl, hall, rfl⟩ := hrel
  have HA := Lib.hid hall
  clear hall
  by_cases hlt : i < s.size
  ·have hb := byt_get hlt
   have hc := (s[i]'hlt).toNat_lt
   by_cases ha : byt s i < 128
   ·have hnx := fun ty => run_next_ascii (P := Tryz.prog) w s i ty hlt (by omega)
    rw [hb] at hnx
    by_cases a1 : byt s i < 65
    ·have HF := Lib.hid (codeB_no hlt (show upB (byt s i) = false by unfold upB; simp; omega))
     go_wp2_with fail
     go_ret
     exact ⟨by rw [HF.out]; try rfl, by exact (Below.refl _ _).alloc (Nat.le_refl _) _⟩
    ·by_cases a2 : 90 < byt s i
     ·have HF := Lib.hid (codeB_no hlt (show upB (byt s i) = false by unfold upB; simp; omega))
      go_wp2_with fail
      go_ret
      exact ⟨by rw [HF.out]; try rfl, by exact (Below.refl _ _).alloc (Nat.le_refl _) _⟩
     ·have HP := Lib.hid (show (fun j => upB (byt s j)) i = true by show upB (byt s i) = true; unfold upB; simp; omega)
      go_wp2_with fail
      go_roundg (gk - 1)
      case measure => omega
      case rel => exact ⟨i + 1, by omega, by go_num, nm_step HA.out HP.out, rfl⟩
   ·have hd := decode_high s i hlt (by omega)
    have hd2 := decode_le s i
    have hnx := fun ty => run_next_any (P := Tryz.prog) w s i ty hlt
    generalize (Utf8.decode s i).1 = rr at *
    generalize (Utf8.decode s i).2 = pp at *
    have HF := Lib.hid (codeB_no hlt (show upB (byt s i) = false by unfold upB; simp; omega))
    go_wp2_with fail
    go_ret
    exact ⟨by rw [HF.out]; try rfl, by exact (Below.refl _ _).alloc (Nat.le_refl _) _⟩
  ·have hin : i = s.size := by omega
   have HU := Lib.hid (codeB_all (s := s) (fun j hj => HA.out j (by omega)))
   have hnx := fun ty => run_next_end (P := Tryz.prog) w s i ty hlt
   clear hin
   go_wp2_with fail
   go_ret
   exact ⟨by rw [HU.out]; exact Dt.ret_bool (Bool.eq_iff_iff.2 (by simp; omega)), by exact (Below.refl _ _).alloc (Nat.le_refl _) _⟩
end Go.Proofs.YtlolflephnbbcaaGreatDoor.Kl

namespace Go.Proofs.YtlolflephnbbcaaGreatDoor.Kl
open Go.RowKit
open Go.Proofs.YtlolflephnbbcaaGreatDoor
set_option linter.unusedSimpArgs false
set_option maxRecDepth 100000

theorem bl2 {w W w1 : World} (hb : Below W.heap.size W w1) (h : Below w.heap.size w W) : Below w.heap.size w w1 := h.trans (hb.mono h.size)
def RsR (w : World) (l : List Int) (g : Nat) (s3 : Value) (W : World) : Prop := ∃ k : Nat, k + g = l.length ∧ s3 = .int .i64 ((k : Int) + 1) ∧ (∀ j, j < k + 1 → ((j == 0) || decide (l.getD (j - 1) 0 < l.getD j 0)) = true) ∧ Below w.heap.size w W
theorem risesB_no {l : List Int} {k : Nat} (hk : k + 1 < l.length) (h : ¬ l.getD k 0 < l.getD (k + 1) 0) : risesB l = false := by
 unfold risesB
 exact upto_no hk (by simp [List.getD_eq_getElem?_getD] at h ⊢; exact h)
theorem risesB_all {l : List Int} {k : Nat} (hk : l.length ≤ k + 1) (h : ∀ j, j < k + 1 → ((j == 0) || decide (l.getD (j - 1) 0 < l.getD j 0)) = true) : risesB l = true := by
 unfold risesB
 exact upto_yes (fun j hj => h j (by omega))
theorem rs_step {l : List Int} {k : Nat} (h : ∀ j, j < k + 1 → ((j == 0) || decide (l.getD (j - 1) 0 < l.getD j 0)) = true) (hk : l.getD k 0 < l.getD (k + 1) 0) : ∀ j, j < k + 1 + 1 → ((j == 0) || decide (l.getD (j - 1) 0 < l.getD j 0)) = true := fun j hj => by
 by_cases e : j = k + 1
 ·subst e
  rw [show k + 1 - 1 = k by omega, decide_eq_true hk, Bool.or_true]
 ·exact h j (by omega)
set_option maxHeartbeats 4000000 in
theorem rises_any (a : Option Addr) (cap : Nat) (l : List Int) (w : World) (h : Bk.IntsIn w a l) : Calls Tryz.prog 156 #[.slice a l.length cap] w fun e w' => e = .returned (.bool (risesB l)) ∧ Below w.heap.size w w' := by
 have H := Lib.hid h
 have hln := h.1
 clear h
 go_enter Tryz.func156, Tryz.ntmps156
 go_wp2_with fail
 go_loopg [3] l.length (RsR w l)
 case atStart => exact ⟨0, by omega, rfl, fun j hj => (by
   have hj0 : j = 0 := by omega
   rw [hj0]
   rfl), Below.refl _ _⟩
 case round =>
  obtain ⟨k, hk, rfl, hall, hbr⟩ := hrel
  have HA := Lib.hid hall
  clear hall
  by_cases hlt : k + 1 < l.length
  ·obtain ⟨b, off, rfl, hc⟩ := H.out.2 (by omega)
   have c0 := cell_later hbr (hc k (by omega))
   have c1 := cell_later hbr (hc (k + 1) hlt)
   have hln := H.out.1
   clear hc
   have HN := Lib.hid (fun h => risesB_no (l := l) hlt h)
   have HS := Lib.hid (fun h => rs_step (l := l) HA.out h)
   have HG := Lib.hid (show l.getD k 0 = l.getD k 0 ∧ l.getD (k + 1) 0 = l.getD (k + 1) 0 from ⟨rfl, rfl⟩)
   have hw : IntKind.i64.wrap (k : Int) = k := by rw [IntKind.wrap_i64]; omega
   have hk1 : k < l.length := by omega
   have q0 : ∀ W', Reg.Cls wr W' → W'.cell? ⟨b, off + k, none⟩ = some (.int .i64 (l.getD k 0)) := fun W' hW => cell_later hW c0
   have q1 : ∀ W', Reg.Cls wr W' → W'.cell? ⟨b, off + (k + 1), none⟩ = some (.int .i64 (l.getD (k + 1) 0)) := fun W' hW => cell_later hW c1
   generalize l.getD k 0 = x at *
   generalize l.getD (k + 1) 0 = y at *
   clear c0 c1 HG
   by_cases hxy : x < y
   ·have gc : decide (y ≤ x) = false := decide_eq_false (by omega)
    go_upto_region 4 with fail
    refine Reg.region_quiet (by kernel_rfl) (by kernel_rfl) ?_
    iterate 10 (first | go_big_quiet_skip | (go_big_quiet_want; (first | (go_big_quiet_op; go_big_quiet_on) | (apply Reg.quiet_run; (intro W hW; skip; go_simp; (first | done | rfl | exact ⟨rfl, rfl⟩ )); (simp only [Act.put, List.setIfInBounds_toArray, List.set_cons_zero, List.set_cons_succ]; go_big_quiet_on)) | (apply Reg.quiet_call; (intro W hW; go_simp; (first | done | rfl | exact ⟨rfl, rfl⟩)); (intro W hW; (first | fail)); (simp only [Act.put, List.setIfInBounds_toArray, List.set_cons_zero, List.set_cons_succ]; go_big_quiet_on)))))
    refine wpQuiet_nil ?_
    intro w1 hW
    have hb1 : Below w.heap.size w w1 := bl2 hW hbr
    clear hW q0 q1
    go_wp2_with fail
    go_roundg (gk - 1)
    case measure => omega
    case rel => exact ⟨k + 1, by omega, by go_num, HS.out hxy, hb1⟩
   ·have gc : decide (y ≤ x) = true := decide_eq_true (by omega)
    go_upto_region 4 with fail
    refine Reg.region_quiet (by kernel_rfl) (by kernel_rfl) ?_
    iterate 10 (first | go_big_quiet_skip | (go_big_quiet_want; (first | (go_big_quiet_op; go_big_quiet_on) | (apply Reg.quiet_run; (intro W hW; skip; go_simp; (first | done | rfl | exact ⟨rfl, rfl⟩ )); (simp only [Act.put, List.setIfInBounds_toArray, List.set_cons_zero, List.set_cons_succ]; go_big_quiet_on)) | (apply Reg.quiet_call; (intro W hW; go_simp; (first | done | rfl | exact ⟨rfl, rfl⟩)); (intro W hW; (first | fail)); (simp only [Act.put, List.setIfInBounds_toArray, List.set_cons_zero, List.set_cons_succ]; go_big_quiet_on)))))
    refine wpQuiet_nil ?_
    intro w1 hW
    have hb1 : Below w.heap.size w w1 := bl2 hW hbr
    clear hW q0 q1
    go_wp2_with fail
    go_ret
    exact ⟨by rw [HN.out hxy]; try rfl, hb1⟩
  ·have HU := Lib.hid (risesB_all (l := l) (k := k) (by omega) HA.out)
   go_wp2_with fail
   go_ret
   exact ⟨by rw [HU.out]; try rfl, hbr⟩
set_option maxHeartbeats 4000000 in
theorem rrises_any (a : Option Addr) (cap : Nat) (l : List Int) (w : World) (h : Bk.IntsIn w a l) : Calls Tryz.prog 52 #[.slice a l.length cap] w fun e w' => e = .returned (.bool (risesB l)) ∧ Below w.heap.size w w' := by
 have H := Lib.hid h
 have hln := h.1
 clear h
 go_enter Tryz.func52, Tryz.ntmps52
 go_wp2_with fail
 go_loopg [3] l.length (RsR w l)
 case atStart => exact ⟨0, by omega, rfl, fun j hj => (by
   have hj0 : j = 0 := by omega
   rw [hj0]
   rfl), Below.refl _ _⟩
 case round =>
  obtain ⟨k, hk, rfl, hall, hbr⟩ := hrel
  have HA := Lib.hid hall
  clear hall
  by_cases hlt : k + 1 < l.length
  ·obtain ⟨b, off, rfl, hc⟩ := H.out.2 (by omega)
   have c0 := cell_later hbr (hc k (by omega))
   have c1 := cell_later hbr (hc (k + 1) hlt)
   have hln := H.out.1
   clear hc
   have HN := Lib.hid (fun h => risesB_no (l := l) hlt h)
   have HS := Lib.hid (fun h => rs_step (l := l) HA.out h)
   have HG := Lib.hid (show l.getD k 0 = l.getD k 0 ∧ l.getD (k + 1) 0 = l.getD (k + 1) 0 from ⟨rfl, rfl⟩)
   have hw : IntKind.i64.wrap (k : Int) = k := by rw [IntKind.wrap_i64]; omega
   have hk1 : k < l.length := by omega
   have q0 : ∀ W', Reg.Cls wr W' → W'.cell? ⟨b, off + k, none⟩ = some (.int .i64 (l.getD k 0)) := fun W' hW => cell_later hW c0
   have q1 : ∀ W', Reg.Cls wr W' → W'.cell? ⟨b, off + (k + 1), none⟩ = some (.int .i64 (l.getD (k + 1) 0)) := fun W' hW => cell_later hW c1
   generalize l.getD k 0 = x at *
   generalize l.getD (k + 1) 0 = y at *
   clear c0 c1 HG
   by_cases hxy : x < y
   ·have gc : decide (y ≤ x) = false := decide_eq_false (by omega)
    go_upto_region 4 with fail
    refine Reg.region_quiet (by kernel_rfl) (by kernel_rfl) ?_
    iterate 10 (first | go_big_quiet_skip | (go_big_quiet_want; (first | (go_big_quiet_op; go_big_quiet_on) | (apply Reg.quiet_run; (intro W hW; skip; go_simp; (first | done | rfl | exact ⟨rfl, rfl⟩ )); (simp only [Act.put, List.setIfInBounds_toArray, List.set_cons_zero, List.set_cons_succ]; go_big_quiet_on)) | (apply Reg.quiet_call; (intro W hW; go_simp; (first | done | rfl | exact ⟨rfl, rfl⟩)); (intro W hW; (first | fail)); (simp only [Act.put, List.setIfInBounds_toArray, List.set_cons_zero, List.set_cons_succ]; go_big_quiet_on)))))
    refine wpQuiet_nil ?_
    intro w1 hW
    have hb1 : Below w.heap.size w w1 := bl2 hW hbr
    clear hW q0 q1
    go_wp2_with fail
    go_roundg (gk - 1)
    case measure => omega
    case rel => exact ⟨k + 1, by omega, by go_num, HS.out hxy, hb1⟩
   ·have gc : decide (y ≤ x) = true := decide_eq_true (by omega)
    go_upto_region 4 with fail
    refine Reg.region_quiet (by kernel_rfl) (by kernel_rfl) ?_
    iterate 10 (first | go_big_quiet_skip | (go_big_quiet_want; (first | (go_big_quiet_op; go_big_quiet_on) | (apply Reg.quiet_run; (intro W hW; skip; go_simp; (first | done | rfl | exact ⟨rfl, rfl⟩ )); (simp only [Act.put, List.setIfInBounds_toArray, List.set_cons_zero, List.set_cons_succ]; go_big_quiet_on)) | (apply Reg.quiet_call; (intro W hW; go_simp; (first | done | rfl | exact ⟨rfl, rfl⟩)); (intro W hW; (first | fail)); (simp only [Act.put, List.setIfInBounds_toArray, List.set_cons_zero, List.set_cons_succ]; go_big_quiet_on)))))
    refine wpQuiet_nil ?_
    intro w1 hW
    have hb1 : Below w.heap.size w w1 := bl2 hW hbr
    clear hW q0 q1
    go_wp2_with fail
    go_ret
    exact ⟨by rw [HN.out hxy]; try rfl, hb1⟩
  ·have HU := Lib.hid (risesB_all (l := l) (k := k) (by omega) HA.out)
   go_wp2_with fail
   go_ret
   exact ⟨by rw [HU.out]; try rfl, hbr⟩
def HsR (w : World) (l : List Int) (n : Int) (g : Nat) (s5 : Value) (W : World) : Prop := ∃ k : Nat, k + g = l.length ∧ s5 = .int .i64 k ∧ (∀ j, j < k → (l.getD j 0 != n) = true) ∧ w = W
theorem hasB_yes {l : List Int} {n : Int} {k : Nat} (hk : k < l.length) (h : l.getD k 0 = n) : hasB l n = true := by
 unfold hasB
 rw [upto_no hk (by rw [h]; simp)]
 rfl
theorem hasB_no {l : List Int} {n : Int} (h : ∀ j, j < l.length → (l.getD j 0 != n) = true) : hasB l n = false := by
 unfold hasB
 rw [upto_yes h]
 rfl
set_option maxHeartbeats 4000000 in
theorem index_any (a : Option Addr) (cap : Nat) (l : List Int) (n : Int) (w : World) (h : Bk.IntsIn w a l) : Calls Tryz.prog 216 #[.slice a l.length cap, .int .i64 n] w fun e w' => (∃ r : Int, e = .returned (.int .i64 r) ∧ hasB l n = decide (0 ≤ r)) ∧ w = w' := by
 have H := Lib.hid h
 have hln := h.1
 clear h
 go_enter Tryz.func216, Tryz.ntmps216
 go_wp2_with fail
 go_loopg [8] l.length (HsR w l n)
 case atStart => exact ⟨0, by omega, rfl, fun j hj => by omega, rfl⟩
 case round =>
  obtain ⟨k, hk, rfl, hall, rfl⟩ := hrel
  have HA := Lib.hid hall
  clear hall
  by_cases hlt : k < l.length
  ·obtain ⟨b, off, rfl, hc⟩ := H.out.2 (by omega)
   have c0 := hc k hlt
   clear hc
   by_cases hx : l.getD k 0 = n
   ·have HY := Lib.hid (hasB_yes hlt hx)
    have ge : (n == l.getD k 0) = true := by rw [hx]; exact beq_self_eq_true n
    clear hx
    generalize l.getD k 0 = x at *
    go_wp2_with fail
    go_ret
    exact ⟨⟨k, rfl, by rw [HY.out]; simp⟩, rfl⟩
   ·have ge : (n == l.getD k 0) = false := by first | exact beq_eq_false_iff_ne.2 hx | exact beq_eq_false_iff_ne.2 (Ne.symm hx)
    have HP := Lib.hid (show (fun j => l.getD j 0 != n) k = true from bne_iff_ne.2 hx)
    clear hx
    generalize l.getD k 0 = x at *
    go_wp2_with fail
    go_roundg (gk - 1)
    case measure => omega
    case rel => exact ⟨k + 1, by omega, by go_num, nm_step HA.out HP.out, rfl⟩
  ·have HU := Lib.hid (hasB_no (l := l) (n := n) (fun j hj => HA.out j (by omega)))
   go_wp2_with fail
   go_ret
   exact ⟨⟨-1, rfl, by rw [HU.out]; rfl⟩, rfl⟩
theorem contains_any (a : Option Addr) (cap : Nat) (l : List Int) (n : Int) (w : World) (h : Bk.IntsIn w a l) : Calls Tryz.prog 192 #[.slice a l.length cap, .int .i64 n] w fun e w' => e = .returned (.bool (hasB l n)) ∧ w = w' := by
 have HI := Lib.hid (index_any a cap l n w h)
 clear h
 go_enter Tryz.func192, Tryz.ntmps192
 go_wp2_with fail
 refine HI.out.mono ?_
 rintro e w' ⟨⟨r, rfl, hr⟩, rfl⟩
 go_wp2_with fail
 go_ret
 exact ⟨by rw [hr]; try rfl, rfl⟩
def nonB (l : List Int) (p : Int → Bool) : Bool := upto l.length fun j => !p (l.getD j 0)
theorem nonB_yes {l : List Int} {p : Int → Bool} (h : ∀ j, j < l.length → (fun j => !p (l.getD j 0)) j = true) : nonB l p = true := upto_yes h
theorem nonB_no {l : List Int} {p : Int → Bool} {k : Nat} (hk : k < l.length) (h : p (l.getD k 0) = true) : nonB l p = false := upto_no hk (by show (!p (l.getD k 0)) = false; rw [h]; rfl)
theorem inB_yes {l : List Int} {a b : Int} (h : ∀ j, j < l.length → decide (a ≤ l.getD j 0 ∧ l.getD j 0 ≤ b) = true) : inB l a b = true := upto_yes h
theorem inB_no {l : List Int} {a b : Int} {k : Nat} (hk : k < l.length) (h : decide (a ≤ l.getD k 0 ∧ l.getD k 0 ≤ b) = false) : inB l a b = false := upto_no hk h
def IfR (w : World) (l : List Int) (p : Int → Bool) (g : Nat) (s8 : Value) (W : World) : Prop := ∃ k : Nat, k + g = l.length ∧ s8 = .int .i64 k ∧ (∀ j, j < k → (fun j => !p (l.getD j 0)) j = true) ∧ Below w.heap.size w W
set_option maxHeartbeats 4000000 in
theorem indexf_any (g : Nat) (lb : Array Value) (p : Int → Bool) (a : Option Addr) (cap : Nat) (l : List Int) (w : World) (h : Bk.IntsIn w a l) (eg : ∀ args w, (callFunc g args).run Tryz.prog w = .ok (.enter g args) w)
  (hp : ∀ (n : Int) (W : World), Below w.heap.size w W → Calls Tryz.prog g (#[.int .i64 n] ++ lb) W fun e w' => e = .returned (.bool (p n)) ∧ Below W.heap.size W w') :
  Calls Tryz.prog 215 #[.slice a l.length cap, .func (.func g) #[] lb] w fun e w' => (∃ r : Int, e = .returned (.int .i64 r) ∧ nonB l p = decide (r < 0)) ∧ Below w.heap.size w w' := by
 have H := Lib.hid h
 have HP := Lib.hid hp
 have hln := h.1
 clear h hp
 go_enter Tryz.func215, Tryz.ntmps215
 go_wp2_with fail
 go_loopg [8] l.length (IfR w l p)
 case atStart => exact ⟨0, by omega, rfl, fun j hj => by omega, Below.refl _ _⟩
 case round =>
  obtain ⟨k, hk, rfl, hall, hbr⟩ := hrel
  have HA := Lib.hid hall
  clear hall
  by_cases hlt : k < l.length
  ·obtain ⟨b, off, rfl, hc⟩ := H.out.2 (by omega)
   have c0 := cell_later hbr (hc k hlt)
   have hcall := HP.out (l.getD k 0) wr hbr
   clear hc
   cases hv : p (l.getD k 0)
   ·rw [hv] at hcall
    have HV := Lib.hid (show (fun j => !p (l.getD j 0)) k = true by show (!p (l.getD k 0)) = true; rw [hv]; rfl)
    clear hv
    generalize l.getD k 0 = x at *
    go_wp2_with fail
    refine hcall.mono ?_
    rintro e w1 ⟨rfl, hb⟩
    go_wp2_with fail
    go_roundg (gk - 1)
    case measure => omega
    case rel => exact ⟨k + 1, by omega, by go_num, nm_step HA.out HV.out, bl2 hb hbr⟩
   ·rw [hv] at hcall
    have HV := Lib.hid (nonB_no (p := p) hlt hv)
    clear hv
    generalize l.getD k 0 = x at *
    go_wp2_with fail
    refine hcall.mono ?_
    rintro e w1 ⟨rfl, hb⟩
    go_wp2_with fail
    go_ret
    exact ⟨⟨k, rfl, by rw [HV.out]; simp⟩, bl2 hb hbr⟩
  ·have HU := Lib.hid (nonB_yes (l := l) (p := p) (fun j hj => HA.out j (by omega)))
   go_wp2_with fail
   go_ret
   exact ⟨⟨-1, rfl, by rw [HU.out]; rfl⟩, hbr⟩
end Go.Proofs.YtlolflephnbbcaaGreatDoor.Kl

namespace Go.Proofs.YtlolflephnbbcaaGreatDoor.Kl
open Go.RowKit
open Go.Proofs.YtlolflephnbbcaaGreatDoor
set_option linter.unusedSimpArgs false
set_option maxRecDepth 100000

theorem containsf_any (g : Nat) (lb : Array Value) (p : Int → Bool) (a : Option Addr) (cap : Nat) (l : List Int) (w : World) (h : Bk.IntsIn w a l) (eg : ∀ args w, (callFunc g args).run Tryz.prog w = .ok (.enter g args) w)
  (hp : ∀ (n : Int) (W : World), Below w.heap.size w W → Calls Tryz.prog g (#[.int .i64 n] ++ lb) W fun e w' => e = .returned (.bool (p n)) ∧ Below W.heap.size W w') :
  Calls Tryz.prog 190 #[.slice a l.length cap, .func (.func g) #[] lb] w fun e w' => e = .returned (.bool (!nonB l p)) ∧ Below w.heap.size w w' := by
 have HC := Lib.hid (indexf_any g lb p a cap l w h eg hp)
 clear h hp
 go_enter Tryz.func190, Tryz.ntmps190
 go_wp2_with fail
 refine HC.out.mono ?_
 rintro e w1 ⟨⟨r, rfl, hr⟩, hb⟩
 by_cases h0 : r < 0
 ·have HF := Lib.hid (show (!nonB l p) = false by rw [hr, decide_eq_true h0]; rfl)
  go_wp2_with fail
  go_ret
  exact ⟨by rw [HF.out]; first | rfl | (simp; omega), hb⟩
 ·have HF := Lib.hid (show (!nonB l p) = true by rw [hr, decide_eq_false h0]; rfl)
  go_wp2_with fail
  go_ret
  exact ⟨by rw [HF.out]; first | rfl | (simp; omega), hb⟩
def outB (a b n : Int) : Bool := decide (n < a) || decide (b < n)
theorem within1_any (n a b : Int) (g1 g2 : Nat) (w : World) (h1 : Bk.Blk w g1 #[.int .i64 a] 3) (h2 : Bk.Blk w g2 #[.int .i64 b] 3) :
  Calls Tryz.prog 191 #[.int .i64 n, .pointer (some ⟨g1, 0, none⟩), .pointer (some ⟨g2, 0, none⟩)] w fun e w' => e = .returned (.bool (outB a b n)) ∧ Below w.heap.size w w' := by
 have c1 := h1.c0
 have c2 := h2.c0
 unfold outB
 clear h1 h2
 by_cases k1 : n < a
 ·rw [decide_eq_true k1, Bool.true_or]
  go_enter Tryz.func191, Tryz.ntmps191
  go_wp2_with fail
  go_ret
  exact ⟨by simp, Below.refl _ _⟩
 ·rw [decide_eq_false k1, Bool.false_or]
  go_enter Tryz.func191, Tryz.ntmps191
  go_wp2_with fail
  go_ret
  exact ⟨by simp, Below.refl _ _⟩
theorem inB_non (l : List Int) (a b : Int) : inB l a b = nonB l (outB a b) := by
 unfold inB nonB
 congr 1
 funext j
 unfold outB
 by_cases h1 : l.getD j 0 < a
 ·rw [decide_eq_true h1, decide_eq_false (by omega)]; rfl
 ·by_cases h2 : b < l.getD j 0
  ·rw [decide_eq_true h2, decide_eq_false (by omega), Bool.or_true]; rfl
  ·rw [decide_eq_false h1, decide_eq_false h2, decide_eq_true (by omega)]; rfl
theorem within_any (a : Option Addr) (cap : Nat) (l : List Int) (x y : Int) (w : World) (h : Bk.IntsIn w a l) :
  Calls Tryz.prog 155 #[.slice a l.length cap, .int .i64 x, .int .i64 y] w fun e w' => e = .returned (.bool (inB l x y)) ∧ Below w.heap.size w w' := by
 have cw : Below w.heap.size w ((w.alloc (.cells #[.int .i64 x] 3)).alloc (.cells #[.int .i64 y] 3)) := ((Below.refl _ _).alloc (Nat.le_refl _) _).alloc (by simp) _
 have k1 : Bk.Blk ((w.alloc (.cells #[.int .i64 x] 3)).alloc (.cells #[.int .i64 y] 3)) w.heap.size #[.int .i64 x] 3 := Bk.Blk.nw20
 have k2 : Bk.Blk ((w.alloc (.cells #[.int .i64 x] 3)).alloc (.cells #[.int .i64 y] 3)) (w.heap.size + 1) #[.int .i64 y] 3 := Bk.Blk.nw21
 have HN := Lib.hid (inB_non l x y)
 have hi := ints_later cw h
 clear h
 go_enter Tryz.func155, Tryz.ntmps155
 go_upto_region 1 with fail
 generalize ((w.alloc (.cells #[.int .i64 x] 3)).alloc (.cells #[.int .i64 y] 3)) = w1 at *
 have HC := Lib.hid (containsf_any 191 #[.pointer (some ⟨w.heap.size, 0, none⟩), .pointer (some ⟨w.heap.size + 1, 0, none⟩)] (outB x y) a cap l w1 hi (fun _ _ => rfl) (fun n W hW => within1_any n x y _ _ W (k1.later hW) (k2.later hW)))
 go_wp2_with fail
 refine HC.out.mono ?_
 rintro e w2 ⟨rfl, hb⟩
 have cw2 := bl2 hb cw
 go_wp2_with fail
 go_ret
 exact ⟨by rw [HN.out]; try rfl, cw2⟩
set_option maxHeartbeats 8000000 in
theorem clchk_any (c : Cl) (wa ha : Option Addr) (wc hc : Nat) (w : World) (h : CalIn w c wa ha) : Calls Tryz.prog 113 #[(.agg #[.string (c).nm, .slice wa (c).wk.length wc, .slice ha (c).hol.length hc])] w fun e w' => e = .returned (.int .i64 (clE c)) ∧ Below w.heap.size w w' := by
 have cw : Below w.heap.size w (w.alloc (.cells #[.string c.nm, .slice wa c.wk.length wc, .slice ha c.hol.length hc] 26)) := (Below.refl _ _).alloc (Nat.le_refl _) _
 have k0 : Bk.Blk (w.alloc (.cells #[.string c.nm, .slice wa c.wk.length wc, .slice ha c.hol.length hc] 26)) w.heap.size _ 26 := Bk.Blk.nw10
 have hi := h.later cw
 have hw7 := hi.wk.1
 have hh7 := hi.hol.1
 clear h
 go_enter Tryz.func113, Tryz.ntmps113
 go_upto_region 1 with fail
 generalize (w.alloc (.cells _ 26)) = w1 at *
 have cw1 := cw
 clear cw
 have l0 := k0.c0
 have l1 := k0.c1
 have l2 := k0.c2
 go_wp2_with fail
 clear l0 l1 l2
 refine (name_any c.nm _ hi.nm).mono ?_
 rintro e w2 ⟨rfl, rfl⟩
 have cw2 := cw1
 clear cw1
 have l0 := k0.c0
 have l1 := k0.c1
 have l2 := k0.c2
 cases hn : nameB c.nm
 ·have HF := Lib.hid (show clE c = 4 by unfold clE; rw [if_pos hn])
  go_wp2_with fail
  go_ret
  exact ⟨by rw [HF.out]; try rfl, cw2⟩
 ·by_cases h7 : 7 ≤ c.wk.length
  ·have HF := Lib.hid (show clE c = 1 by unfold clE; rw [if_neg (by rw [hn]; simp)]; rw [if_pos (by exact .inl h7)])
   go_wp2_with fail
   go_ret
   exact ⟨by rw [HF.out]; try rfl, cw2⟩
  ·go_wp2_with fail
   clear l0 l1 l2
   refine (within_any wa wc c.wk 0 6 _ hi.wk).mono ?_
   rintro e w3 ⟨rfl, hb⟩
   replace k0 := k0.later hb
   replace hi := hi.later hb
   have cw3 := bl2 hb cw2
   clear hb cw2
   have l0 := k0.c0
   have l1 := k0.c1
   have l2 := k0.c2
   cases hi6 : inB c.wk 0 6
   ·have HF := Lib.hid (show clE c = 1 by unfold clE; rw [if_neg (by rw [hn]; simp)]; rw [if_pos (by exact .inr (.inl hi6))])
    go_wp2_with fail
    go_ret
    exact ⟨by rw [HF.out]; try rfl, cw3⟩
   ·go_wp2_with fail
    clear l0 l1 l2
    refine (rises_any wa wc c.wk _ hi.wk).mono ?_
    rintro e w4 ⟨rfl, hb⟩
    replace k0 := k0.later hb
    replace hi := hi.later hb
    have cw4 := bl2 hb cw3
    clear hb cw3
    have l0 := k0.c0
    have l1 := k0.c1
    have l2 := k0.c2
    cases hr6 : risesB c.wk
    ·have HF := Lib.hid (show clE c = 1 by unfold clE; rw [if_neg (by rw [hn]; simp)]; rw [if_pos (by exact .inr (.inr hr6))])
     go_wp2_with fail
     go_ret
     exact ⟨by rw [HF.out]; try rfl, cw4⟩
    ·by_cases h4 : 400 < c.hol.length
     ·have HF := Lib.hid (show clE c = 5 by unfold clE; rw [if_neg (by rw [hn]; simp)]; rw [if_neg (by rw [hi6, hr6]; simp; omega)]; rw [if_pos (by exact h4)])
      go_wp2_with fail
      go_ret
      exact ⟨by rw [HF.out]; try rfl, cw4⟩
     ·go_wp2_with fail
      clear l0 l1 l2
      refine (within_any ha hc c.hol 0 73048 _ hi.hol).mono ?_
      rintro e w5 ⟨rfl, hb⟩
      replace k0 := k0.later hb
      replace hi := hi.later hb
      have cw5 := bl2 hb cw4
      clear hb cw4
      have l0 := k0.c0
      have l1 := k0.c1
      have l2 := k0.c2
      cases hj : inB c.hol 0 73048
      ·have HF := Lib.hid (show clE c = 1 by unfold clE; rw [if_neg (by rw [hn]; simp)]; rw [if_neg (by rw [hi6, hr6]; simp; omega)]; rw [if_neg (by omega)]; rw [if_pos (by exact hj)])
       go_wp2_with fail
       go_ret
       exact ⟨by rw [HF.out]; try rfl, cw5⟩
      ·go_wp2_with fail
       clear l0 l1 l2
       refine (rises_any ha hc c.hol _ hi.hol).mono ?_
       rintro e w6 ⟨rfl, hb⟩
       replace k0 := k0.later hb
       replace hi := hi.later hb
       have cw6 := bl2 hb cw5
       clear hb cw5
       have l0 := k0.c0
       have l1 := k0.c1
       have l2 := k0.c2
       cases hs : risesB c.hol
       ·have HF := Lib.hid (show clE c = 10 by unfold clE; rw [if_neg (by rw [hn]; simp)]; rw [if_neg (by rw [hi6, hr6]; simp; omega)]; rw [if_neg (by omega)]; rw [if_neg (by rw [hj]; simp)]; rw [if_pos (by exact hs)])
        go_wp2_with fail
        go_ret
        exact ⟨by rw [HF.out]; try rfl, cw6⟩
       ·have HF := Lib.hid (show clE c = 0 by unfold clE; rw [if_neg (by rw [hn]; simp)]; rw [if_neg (by rw [hi6, hr6]; simp; omega)]; rw [if_neg (by omega)]; rw [if_neg (by rw [hj]; simp)]; rw [if_neg (by rw [hs]; simp)])
        go_wp2_with fail
        go_ret
        exact ⟨by rw [HF.out]; try rfl, cw6⟩
def InR (w : World) (l : List Int) (a b : Int) (g : Nat) (s3 : Value) (W : World) : Prop := ∃ k : Nat, k + g = l.length ∧ s3 = .int .i64 k ∧ (∀ j, j < k → (fun j => decide (a ≤ l.getD j 0 ∧ l.getD j 0 ≤ b)) j = true) ∧ w = W
set_option maxHeartbeats 8000000 in
theorem rclchk_any (c : Cl) (wa ha : Option Addr) (wc hc : Nat) (w : World) (h : CalIn w c wa ha) : Calls Tryz.prog 28 #[(.agg #[.string (c).nm, .slice wa (c).wk.length wc, .slice ha (c).hol.length hc])] w fun e w' => e = .returned (.int .i64 (clE c)) ∧ Below w.heap.size w w' := by
 have cw : Below w.heap.size w (w.alloc (.cells #[.string c.nm, .slice wa c.wk.length wc, .slice ha c.hol.length hc] 26)) := (Below.refl _ _).alloc (Nat.le_refl _) _
 have k0 : Bk.Blk (w.alloc (.cells #[.string c.nm, .slice wa c.wk.length wc, .slice ha c.hol.length hc] 26)) w.heap.size _ 26 := Bk.Blk.nw10
 have hi := h.later cw
 have hw7 := hi.wk.1
 have hh7 := hi.hol.1
 clear h
 go_enter Tryz.func28, Tryz.ntmps28
 go_upto_region 1 with fail
 generalize (w.alloc (.cells _ 26)) = w1 at *
 have cw1 := cw
 clear cw
 have l0 := k0.c0
 have l1 := k0.c1
 have l2 := k0.c2
 go_wp2_with fail
 refine (rname_any c.nm _ hi.nm).mono ?_
 rintro e w' ⟨rfl, rfl⟩
 cases hn : nameB c.nm
 ·have HF := Lib.hid (show clE c = 4 by unfold clE; rw [if_pos hn])
  go_wp2_with fail
  go_ret
  exact ⟨by rw [HF.out]; try rfl, cw1⟩
 ·go_wp2_with fail
  go_loopg [3] c.wk.length (InR w1 c.wk 0 6)
  case atStart => exact ⟨0, by omega, rfl, fun j hj => by omega, rfl⟩
  case round =>
   obtain ⟨k, hk, rfl, hall, rfl⟩ := hrel
   have HA := Lib.hid hall
   clear hall
   by_cases hlt : k < c.wk.length
   ·obtain ⟨bb, off, hae, hc'⟩ := hi.wk.2 (by omega)
    have c0 := hc' k hlt
    clear hc'
    rw [hae] at l1
    have HB := Lib.hid (fun h => inB_no (l := c.wk) (a := 0) (b := 6) hlt h)
    have HP := Lib.hid (fun (h : decide (0 ≤ c.wk.getD k 0 ∧ c.wk.getD k 0 ≤ 6) = true) => nm_step HA.out h)
    generalize c.wk.getD k 0 = x at *
    clear hae
    by_cases x0 : x < 0
    ·have hj := HB.out (decide_eq_false (by omega))
     have HF := Lib.hid (show clE c = 1 by unfold clE; rw [if_neg (by rw [hn]; simp)]; rw [if_pos (by exact .inr (.inl hj))])
     go_wp2_with fail
     go_ret
     exact ⟨by rw [HF.out]; try rfl, cw1⟩
    ·by_cases x1 : 6 < x
     ·have hj := HB.out (decide_eq_false (by omega))
      have HF := Lib.hid (show clE c = 1 by unfold clE; rw [if_neg (by rw [hn]; simp)]; rw [if_pos (by exact .inr (.inl hj))])
      go_wp2_with fail
      go_ret
      exact ⟨by rw [HF.out]; try rfl, cw1⟩
     ·have hp := HP.out (decide_eq_true (by omega))
      clear HP HB
      go_wp2_with fail
      go_roundg (gk - 1)
      case measure => omega
      case rel => exact ⟨k + 1, by omega, by go_num, hp, rfl⟩
   ·have hi6 := inB_yes (l := c.wk) (a := 0) (b := 6) (fun j hj => HA.out j (by omega))
    clear HA
    by_cases h7 : 7 ≤ c.wk.length
    ·have HF := Lib.hid (show clE c = 1 by unfold clE; rw [if_neg (by rw [hn]; simp)]; rw [if_pos (by exact .inl h7)])
     go_wp2_with fail
     go_ret
     exact ⟨by rw [HF.out]; try rfl, cw1⟩
    ·go_wp2_with fail
     clear l0 l1 l2
     refine (rrises_any wa wc c.wk _ hi.wk).mono ?_
     rintro e w2 ⟨rfl, hb⟩
     replace k0 := k0.later hb
     replace hi := hi.later hb
     have cw2 := bl2 hb cw1
     clear hb cw1
     have l0 := k0.c0
     have l1 := k0.c1
     have l2 := k0.c2
     cases hr6 : risesB c.wk
     ·have HF := Lib.hid (show clE c = 1 by unfold clE; rw [if_neg (by rw [hn]; simp)]; rw [if_pos (by exact .inr (.inr hr6))])
      go_wp2_with fail
      go_ret
      exact ⟨by rw [HF.out]; try rfl, cw2⟩
     ·by_cases h4 : 400 < c.hol.length
      ·have HF := Lib.hid (show clE c = 5 by unfold clE; rw [if_neg (by rw [hn]; simp)]; rw [if_neg (by rw [hi6, hr6]; simp; omega)]; rw [if_pos (by exact h4)])
       go_wp2_with fail
       go_ret
       exact ⟨by rw [HF.out]; try rfl, cw2⟩
      ·go_wp2_with fail
       go_loopg [4] c.hol.length (InR w2 c.hol 0 73048)
       case atStart => exact ⟨0, by omega, rfl, fun j hj => by omega, rfl⟩
       case round =>
        obtain ⟨k, hk, rfl, hall, rfl⟩ := hrel
        have HA := Lib.hid hall
        clear hall
        by_cases hlt : k < c.hol.length
        ·obtain ⟨bb, off, hae, hc'⟩ := hi.hol.2 (by omega)
         have c0 := hc' k hlt
         clear hc'
         rw [hae] at l2
         have HB := Lib.hid (fun h => inB_no (l := c.hol) (a := 0) (b := 73048) hlt h)
         have HP := Lib.hid (fun (h : decide (0 ≤ c.hol.getD k 0 ∧ c.hol.getD k 0 ≤ 73048) = true) => nm_step HA.out h)
         generalize c.hol.getD k 0 = x at *
         clear hae
         by_cases x0 : x < 0 ∨ 73048 < x
         ·have hj := HB.out (decide_eq_false (by omega))
          have HF := Lib.hid (show clE c = 1 by unfold clE; rw [if_neg (by rw [hn]; simp)]; rw [if_neg (by rw [hi6, hr6]; simp; omega)]; rw [if_neg (by omega)]; rw [if_pos (by exact hj)])
          go_wp2_with fail
          refine (Dt.rvalid_no x _ x0).mono ?_
          rintro e w' ⟨rfl, rfl⟩
          go_wp2_with fail
          go_ret
          exact ⟨by rw [HF.out]; try rfl, cw2⟩
         ·have hp := HP.out (decide_eq_true (by omega))
          clear HP HB
          go_wp2_with fail
          refine (Dt.rvalid_yes x _ (by omega) (by omega)).mono ?_
          rintro e w' ⟨rfl, rfl⟩
          go_wp2_with fail
          go_roundg (gk - 1)
          case measure => omega
          case rel => exact ⟨k + 1, by omega, by go_num, hp, rfl⟩
        ·have hj := inB_yes (l := c.hol) (a := 0) (b := 73048) (fun j hj => HA.out j (by omega))
         clear HA
         go_wp2_with fail
         clear l0 l1 l2
         refine (rrises_any ha hc c.hol _ hi.hol).mono ?_
         rintro e w3 ⟨rfl, hb⟩
         replace k0 := k0.later hb
         replace hi := hi.later hb
         have cw3 := bl2 hb cw2
         clear hb cw2
         have l0 := k0.c0
         have l1 := k0.c1
         have l2 := k0.c2
         cases hs : risesB c.hol
         ·have HF := Lib.hid (show clE c = 10 by unfold clE; rw [if_neg (by rw [hn]; simp)]; rw [if_neg (by rw [hi6, hr6]; simp; omega)]; rw [if_neg (by omega)]; rw [if_neg (by rw [hj]; simp)]; rw [if_pos (by exact hs)])
          go_wp2_with fail
          go_ret
          exact ⟨by rw [HF.out]; try rfl, cw3⟩
         ·have HF := Lib.hid (show clE c = 0 by unfold clE; rw [if_neg (by rw [hn]; simp)]; rw [if_neg (by rw [hi6, hr6]; simp; omega)]; rw [if_neg (by omega)]; rw [if_neg (by rw [hj]; simp)]; rw [if_neg (by rw [hs]; simp)])
          go_wp2_with fail
          go_ret
          exact ⟨by rw [HF.out]; try rfl, cw3⟩
end Go.Proofs.YtlolflephnbbcaaGreatDoor.Kl
