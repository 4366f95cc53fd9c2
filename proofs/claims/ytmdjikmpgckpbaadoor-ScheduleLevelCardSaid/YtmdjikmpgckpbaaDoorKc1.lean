/-
  Calendars: names, codes, lists of numbers: the program's and the reference's.
-/
import Derived.Test.YtmdjikmpgckpbaaDoorKc0
import Derived.Test.YtmdjikmpgckpbaaDoorDate5
import Derived.WalkKit
import Derived.Laws.RangeAny
import Derived.Deep.LoopGhost
import Derived.Test.YtmdjikmpgckpbaaDoorChecked
import Derived.ProofKit
import Derived.BigFrame
namespace Go.Proofs.YtmdjikmpgckpbaaDoor.Kl
open Go.RowKit
open Go.Proofs.YtmdjikmpgckpbaaDoor
set_option linter.unusedSimpArgs false

/-- Where a loop over the bytes of a text stands. -/
def NmR (w : World) (s : ByteArray) (p : Nat → Bool) (g : Nat) (s8 : Value) (W : World) : Prop := ∃ i : Nat, i + g = s.size ∧ s8 = .int .i64 i ∧ (∀ j, j < i → p j = true) ∧ w = W
theorem nm_step {p : Nat → Bool} {i : Nat} (h : ∀ j, j < i → p j = true) (hi : p i = true) : ∀ j, j < i + 1 → p j = true := fun j hj => by
  by_cases e : j = i
  · subst e; exact hi
  · exact h j (by omega)
theorem nameB_no {s : ByteArray} {i : Nat} (hi : i < s.size) (h : nmB i (byt s i) = false) : nameB s = false := by
  unfold nameB
  rw [upto_no hi h, Bool.and_false]
theorem nameB_all {s : ByteArray} (h : ∀ j, j < s.size → nmB j (byt s j) = true) : nameB s = (decide (1 ≤ s.size) && decide (s.size ≤ 16)) := by
  unfold nameB
  rw [upto_yes h, Bool.and_true]
theorem codeB_no {s : ByteArray} {i : Nat} (hi : i < s.size) (h : upB (byt s i) = false) : codeB s = false := by
  unfold codeB
  rw [upto_no hi h, Bool.and_false]
theorem codeB_all {s : ByteArray} (h : ∀ j, j < s.size → upB (byt s j) = true) : codeB s = decide (s.size = 3) := by
  unfold codeB
  rw [upto_yes h, Bool.and_true]
set_option maxHeartbeats 4000000 in
theorem name_any (s : ByteArray) (w : World) (hs : s.size ≤ maxLen) : Calls Tryd.prog 48 #[.string s] w fun e w' => e = .returned (.bool (nameB s)) ∧ w = w' := by
  have hm : s.size ≤ 9223372036854775807 := by unfold maxLen at hs; omega
  clear hs
  go_enter Tryd.func48, Tryd.ntmps48
  go_wp2_with fail
  go_loopg [8] s.size (NmR w s (fun j => nmB j (byt s j)))
  case atStart => exact ⟨0, by omega, rfl, fun j hj => by omega, rfl⟩
  case round =>
    obtain ⟨i, hi, rfl, hall, rfl⟩ := hrel
    have HA := Lib.hid hall
    clear hall
    by_cases hlt : i < s.size
    · have hb := byt_get hlt
      have hc := (s[i]'hlt).toNat_lt
      by_cases a1 : 97 ≤ byt s i
      · by_cases a2 : byt s i ≤ 122
        · have HP := Lib.hid (show nmB i (byt s i) = true by unfold nmB letB; simp; omega)
          go_wp2_with fail
          go_roundg (gk - 1)
          case measure => omega
          case rel => exact ⟨i + 1, by omega, by go_num, nm_step HA.out HP.out, rfl⟩
        · have gd : decide ((byt s i : Int) ≤ 122) = false := decide_eq_false (by omega)
          by_cases i0 : i = 0
          · subst i0
            have HF := Lib.hid (nameB_no hlt (show nmB 0 (byt s 0) = false by unfold nmB letB; simp; omega))
            go_wp2_with fail
            go_ret
            exact ⟨by rw [HF.out]; try rfl, rfl⟩
          · have g0 : ((i : Int) == 0) = false := by simp; omega
            have g95 : ((byt s i : Int) != 95) = true := by simp; omega
            have g48 : decide ((byt s i : Int) < 48) = false := by simp; omega
            have g57 : decide (57 < (byt s i : Int)) = true := by simp; omega
            have HF := Lib.hid (nameB_no hlt (show nmB i (byt s i) = false by unfold nmB letB; simp; omega))
            go_wp2_with fail
            go_ret
            exact ⟨by rw [HF.out]; try rfl, rfl⟩
      · by_cases i0 : i = 0
        · subst i0
          have HF := Lib.hid (nameB_no hlt (show nmB 0 (byt s 0) = false by unfold nmB letB; simp; omega))
          go_wp2_with fail
          go_ret
          exact ⟨by rw [HF.out]; try rfl, rfl⟩
        · have g0 : ((i : Int) == 0) = false := by simp; omega
          by_cases c95 : byt s i = 95
          · have g95 : ((byt s i : Int) != 95) = false := by simp; omega
            have HP := Lib.hid (show nmB i (byt s i) = true by unfold nmB letB; simp; omega)
            go_wp2_with fail
            go_roundg (gk - 1)
            case measure => omega
            case rel => exact ⟨i + 1, by omega, by go_num, nm_step HA.out HP.out, rfl⟩
          · have g95 : ((byt s i : Int) != 95) = true := by simp; omega
            by_cases c48 : byt s i < 48
            · have g48 : decide ((byt s i : Int) < 48) = true := by simp; omega
              have HF := Lib.hid (nameB_no hlt (show nmB i (byt s i) = false by unfold nmB letB; simp; omega))
              go_wp2_with fail
              go_ret
              exact ⟨by rw [HF.out]; try rfl, rfl⟩
            · have g48 : decide ((byt s i : Int) < 48) = false := by simp; omega
              by_cases c57 : 57 < byt s i
              · have g57 : decide (57 < (byt s i : Int)) = true := by simp; omega
                have HF := Lib.hid (nameB_no hlt (show nmB i (byt s i) = false by unfold nmB letB; simp; omega))
                go_wp2_with fail
                go_ret
                exact ⟨by rw [HF.out]; try rfl, rfl⟩
              · have g57 : decide (57 < (byt s i : Int)) = false := by simp; omega
                have HP := Lib.hid (show nmB i (byt s i) = true by unfold nmB letB; simp; omega)
                go_wp2_with fail
                go_roundg (gk - 1)
                case measure => omega
                case rel => exact ⟨i + 1, by omega, by go_num, nm_step HA.out HP.out, rfl⟩
    · have hin : i = s.size := by omega
      have HU := Lib.hid (nameB_all (s := s) (fun j hj => HA.out j (by omega)))
      clear hin
      by_cases e1 : 1 ≤ s.size
      · go_wp2_with fail
        go_ret
        exact ⟨by rw [HU.out]; exact Dt.ret_bool (Bool.eq_iff_iff.2 (by simp; omega)), rfl⟩
      · go_wp2_with fail
        go_ret
        exact ⟨by rw [HU.out]; exact Dt.ret_bool (Bool.eq_iff_iff.2 (by simp; omega)), rfl⟩
set_option maxHeartbeats 4000000 in
theorem rname_any (s : ByteArray) (w : World) (hs : s.size ≤ maxLen) : Calls Tryd.prog 51 #[.string s] w fun e w' => e = .returned (.bool (nameB s)) ∧ w = w' := by
  have hm : s.size ≤ 9223372036854775807 := by unfold maxLen at hs; omega
  clear hs
  by_cases e1 : s.size < 1
  · have HF := Lib.hid (show nameB s = false by unfold nameB; simp; omega)
    go_enter Tryd.func51, Tryd.ntmps51
    go_wp2_with fail
    go_ret
    exact ⟨by rw [HF.out]; try rfl, rfl⟩
  · by_cases e2 : 16 < s.size
    · have HF := Lib.hid (show nameB s = false by unfold nameB; simp; omega)
      go_enter Tryd.func51, Tryd.ntmps51
      go_wp2_with fail
      go_ret
      exact ⟨by rw [HF.out]; try rfl, rfl⟩
    · have hb0 := byt_get (s := s) (j := 0) (by omega)
      have hc0 := (s[0]'(by omega)).toNat_lt
      by_cases f1 : byt s 0 < 97
      · have HF := Lib.hid (nameB_no (i := 0) (by omega) (show nmB 0 (byt s 0) = false by unfold nmB letB; simp; omega))
        go_enter Tryd.func51, Tryd.ntmps51
        go_wp2_with fail
        go_ret
        exact ⟨by rw [HF.out]; try rfl, rfl⟩
      · by_cases f2 : 122 < byt s 0
        · have HF := Lib.hid (nameB_no (i := 0) (by omega) (show nmB 0 (byt s 0) = false by unfold nmB letB; simp; omega))
          go_enter Tryd.func51, Tryd.ntmps51
          go_wp2_with fail
          go_ret
          exact ⟨by rw [HF.out]; try rfl, rfl⟩
        · go_enter Tryd.func51, Tryd.ntmps51
          go_wp2_with fail
          go_loopg [3] s.size (NmR w s (fun j => nmB j (byt s j)))
          case atStart => exact ⟨0, by omega, rfl, fun j hj => by omega, rfl⟩
          case round =>
            obtain ⟨i, hi, rfl, hall, rfl⟩ := hrel
            have HA := Lib.hid hall
            clear hall
            by_cases hlt : i < s.size
            · have hb := byt_get hlt
              have hc := (s[i]'hlt).toNat_lt
              by_cases a1 : 97 ≤ byt s i
              · by_cases a2 : byt s i ≤ 122
                · have HP := Lib.hid (show nmB i (byt s i) = true by unfold nmB letB; simp; omega)
                  go_wp2_with fail
                  go_roundg (gk - 1)
                  case measure => omega
                  case rel => exact ⟨i + 1, by omega, by go_num, nm_step HA.out HP.out, rfl⟩
                · have gd : decide (122 < (byt s i : Int)) = true := decide_eq_true (by omega)
                  have hi0 : i ≠ 0 := by
                    intro e
                    rw [e] at a2
                    omega
                  have g95 : ((byt s i : Int) != 95) = true := by simp; omega
                  have g48 : decide ((byt s i : Int) < 48) = false := by simp; omega
                  have g57 : decide (57 < (byt s i : Int)) = true := by simp; omega
                  have HF := Lib.hid (nameB_no hlt (show nmB i (byt s i) = false by unfold nmB letB; simp; omega))
                  go_wp2_with fail
                  go_ret
                  exact ⟨by rw [HF.out]; try rfl, rfl⟩
              · have hi0 : i ≠ 0 := by
                  intro e
                  rw [e] at a1
                  omega
                by_cases c48 : byt s i < 48
                · have g95 : ((byt s i : Int) != 95) = true := by simp; omega
                  have g48 : decide ((byt s i : Int) < 48) = true := by simp; omega
                  have HF := Lib.hid (nameB_no hlt (show nmB i (byt s i) = false by unfold nmB letB; simp; omega))
                  go_wp2_with fail
                  go_ret
                  exact ⟨by rw [HF.out]; try rfl, rfl⟩
                · have g48 : decide ((byt s i : Int) < 48) = false := by simp; omega
                  by_cases c57 : 57 < byt s i
                  · have g57 : decide (57 < (byt s i : Int)) = true := by simp; omega
                    by_cases c95 : byt s i = 95
                    · have g95 : ((byt s i : Int) != 95) = false := by simp; omega
                      have HP := Lib.hid (show nmB i (byt s i) = true by unfold nmB letB; simp; omega)
                      go_wp2_with fail
                      go_roundg (gk - 1)
                      case measure => omega
                      case rel => exact ⟨i + 1, by omega, by go_num, nm_step HA.out HP.out, rfl⟩
                    · have g95 : ((byt s i : Int) != 95) = true := by simp; omega
                      have HF := Lib.hid (nameB_no hlt (show nmB i (byt s i) = false by unfold nmB letB; simp; omega))
                      go_wp2_with fail
                      go_ret
                      exact ⟨by rw [HF.out]; try rfl, rfl⟩
                  · have g57 : decide (57 < (byt s i : Int)) = false := by simp; omega
                    have HP := Lib.hid (show nmB i (byt s i) = true by unfold nmB letB; simp; omega)
                    go_wp2_with fail
                    go_roundg (gk - 1)
                    case measure => omega
                    case rel => exact ⟨i + 1, by omega, by go_num, nm_step HA.out HP.out, rfl⟩
            · have hin : i = s.size := by omega
              have HU := Lib.hid (nameB_all (s := s) (fun j hj => HA.out j (by omega)))
              clear hin
              go_wp2_with fail
              go_ret
              exact ⟨by rw [HU.out]; simp; omega, rfl⟩
set_option maxHeartbeats 4000000 in
theorem rcode_any (s : ByteArray) (w : World) (hs : s.size ≤ maxLen) : Calls Tryd.prog 34 #[.string s] w fun e w' => e = .returned (.bool (codeB s)) ∧ w = w' := by
  have hm : s.size ≤ 9223372036854775807 := by unfold maxLen at hs; omega
  clear hs
  by_cases e1 : s.size = 3
  · go_enter Tryd.func34, Tryd.ntmps34
    go_wp2_with fail
    go_loopg [3] s.size (NmR w s (fun j => upB (byt s j)))
    case atStart => exact ⟨0, by omega, rfl, fun j hj => by omega, rfl⟩
    case round =>
      obtain ⟨i, hi, rfl, hall, rfl⟩ := hrel
      have HA := Lib.hid hall
      clear hall
      by_cases hlt : i < s.size
      · have hb := byt_get hlt
        have hc := (s[i]'hlt).toNat_lt
        by_cases a1 : byt s i < 65
        · have HF := Lib.hid (codeB_no hlt (show (fun j => upB (byt s j)) i = false by show upB (byt s i) = _; unfold upB; simp; omega))
          go_wp2_with fail
          go_ret
          exact ⟨by rw [HF.out]; try rfl, rfl⟩
        · by_cases a2 : 90 < byt s i
          · have HF := Lib.hid (codeB_no hlt (show (fun j => upB (byt s j)) i = false by show upB (byt s i) = _; unfold upB; simp; omega))
            go_wp2_with fail
            go_ret
            exact ⟨by rw [HF.out]; try rfl, rfl⟩
          · have HP := Lib.hid (show (fun j => upB (byt s j)) i = true by show upB (byt s i) = _; unfold upB; simp; omega)
            go_wp2_with fail
            go_roundg (gk - 1)
            case measure => omega
            case rel => exact ⟨i + 1, by omega, by go_num, nm_step HA.out HP.out, rfl⟩
      · have hin : i = s.size := by omega
        have HU := Lib.hid (codeB_all (s := s) (fun j hj => HA.out j (by omega)))
        clear hin
        go_wp2_with fail
        go_ret
        exact ⟨by rw [HU.out]; simp; omega, rfl⟩
  · have HF := Lib.hid (show codeB s = false by unfold codeB; simp; omega)
    go_enter Tryd.func34, Tryd.ntmps34
    go_wp2_with fail
    go_ret
    exact ⟨by rw [HF.out]; try rfl, rfl⟩
/-- Where the loop over the runes stands. -/
def CdR (w : World) (s : ByteArray) (g : Nat) (s3 : Value) (W : World) : Prop := ∃ i : Nat, i + g = s.size ∧ s3 = .int .i64 i ∧ (∀ j, j < i → upB (byt s j) = true) ∧ W = w.iter s i
set_option maxHeartbeats 4000000 in
theorem code_any (s : ByteArray) (w : World) (hs : s.size ≤ maxLen) : Calls Tryd.prog 29 #[.string s] w fun e w' => e = .returned (.bool (codeB s)) ∧ Below w.heap.size w w' := by
  have hm : s.size ≤ 9223372036854775807 := by unfold maxLen at hs; omega
  clear hs
  go_enter Tryd.func29, Tryd.ntmps29
  go_wp2_with fail
  go_loopg [3] s.size (CdR w s)
  case atStart => exact ⟨0, by omega, rfl, fun j hj => by omega, rfl⟩
  case round =>
    obtain ⟨i, hi, rfl, hall, rfl⟩ := hrel
    have HA := Lib.hid hall
    clear hall
    by_cases hlt : i < s.size
    · have hb := byt_get hlt
      have hc := (s[i]'hlt).toNat_lt
      by_cases ha : byt s i < 128
      · have hnx := fun ty => run_next_ascii (P := Tryd.prog) w s i ty hlt (by omega)
        rw [hb] at hnx
        by_cases a1 : byt s i < 65
        · have HF := Lib.hid (codeB_no hlt (show upB (byt s i) = false by unfold upB; simp; omega))
          go_wp2_with fail
          go_ret
          exact ⟨by rw [HF.out]; try rfl, by exact (Below.refl _ _).alloc (Nat.le_refl _) _⟩
        · by_cases a2 : 90 < byt s i
          · have HF := Lib.hid (codeB_no hlt (show upB (byt s i) = false by unfold upB; simp; omega))
            go_wp2_with fail
            go_ret
            exact ⟨by rw [HF.out]; try rfl, by exact (Below.refl _ _).alloc (Nat.le_refl _) _⟩
          · have HP := Lib.hid (show (fun j => upB (byt s j)) i = true by show upB (byt s i) = true; unfold upB; simp; omega)
            go_wp2_with fail
            go_roundg (gk - 1)
            case measure => omega
            case rel => exact ⟨i + 1, by omega, by go_num, nm_step HA.out HP.out, rfl⟩
      · have hd := decode_high s i hlt (by omega)
        have hd2 := decode_le s i
        have hnx := fun ty => run_next_any (P := Tryd.prog) w s i ty hlt
        generalize (Utf8.decode s i).1 = rr at *
        generalize (Utf8.decode s i).2 = pp at *
        have HF := Lib.hid (codeB_no hlt (show upB (byt s i) = false by unfold upB; simp; omega))
        go_wp2_with fail
        go_ret
        exact ⟨by rw [HF.out]; try rfl, by exact (Below.refl _ _).alloc (Nat.le_refl _) _⟩
    · have hin : i = s.size := by omega
      have HU := Lib.hid (codeB_all (s := s) (fun j hj => HA.out j (by omega)))
      have hnx := fun ty => run_next_end (P := Tryd.prog) w s i ty hlt
      clear hin
      go_wp2_with fail
      go_ret
      exact ⟨by rw [HU.out]; exact Dt.ret_bool (Bool.eq_iff_iff.2 (by simp; omega)), by exact (Below.refl _ _).alloc (Nat.le_refl _) _⟩
end Go.Proofs.YtmdjikmpgckpbaaDoor.Kl
