/-
  Parts of the proof: Kca, Kcb.
-/
import Derived.Test.YtjhpiclnpmdjnaaGreatDoorQ26
import Derived.Test.YtjhpiclnpmdjnaaGreatDoorQ10
import Derived.Test.YtjhpiclnpmdjnaaGreatDoorQ03
import Derived.WalkKit
import Derived.Laws.RangeAny
import Derived.Deep.LoopGhost
import Derived.Test.YtjhpiclnpmdjnaaGreatDoorChecked
import Derived.ProofKit
import Derived.BigFrame
import Derived.BigQuiet
import Derived.Deep.Cut
namespace Go.Proofs.YtjhpiclnpmdjnaaGreatDoor.Dt
open Go.RowKit
open Go.Proofs.YtjhpiclnpmdjnaaGreatDoor.Cal
open Go.Proofs.YtjhpiclnpmdjnaaGreatDoor.Kl
set_option maxRecDepth 100000

end Go.Proofs.YtjhpiclnpmdjnaaGreatDoor.Dt

namespace Go.Proofs.YtjhpiclnpmdjnaaGreatDoor.Kl
open Go.RowKit
open Go.Proofs.YtjhpiclnpmdjnaaGreatDoor
set_option linter.unusedSimpArgs false

def NmR (w : World) (s : ByteArray) (p : Nat → Bool) (g : Nat) (s8 : Value) (W : World) : Prop := ∃ i : Nat, i + g = s.size ∧ s8 = .int .i64 i ∧ (∀ j, j < i → p j = true) ∧ w = W
theorem nm_step {p : Nat → Bool} {i : Nat} (h : ∀ j, j < i → p j = true) (hi : p i = true) : ∀ j, j < i + 1 → p j = true := fun j hj => by
 by_cases e : j = i
 ·subst e; exact hi
 ·exact h j (by omega)
theorem nameB_no {s : ByteArray} {i : Nat} (hi : i < s.size) (h : nmB i (byt s i) = false) : nameB s = false := by
 unfold nameB
 rw [upto_no hi h, Bool.and_false]
theorem nameB_all {s : ByteArray} (h : ∀ j, j < s.size → nmB j (byt s j) = true) : nameB s = (decide (1 ≤ s.size) && decide (s.size ≤ 16)) := by
 unfold nameB
 rw [upto_yes h, Bool.and_true]
theorem codeB_no {s : ByteArray} {i : Nat} (hi : i < s.size) (h : upB (byt s i) = false) : codeB s = false := by
 unfold codeB
 rw [upto_no hi h, Bool.and_false]
theorem codeB_all {s : ByteArray} (h : ∀ j, j < s.size → upB (byt s j) = true) : codeB s = decide (s.size = 3) := by
 unfold codeB
 rw [upto_yes h, Bool.and_true]
set_option maxHeartbeats 4000000 in
theorem rname_any (s : ByteArray) (w : World) (hs : s.size ≤ maxLen) : Calls Tryz.prog 45 #[.string s] w fun e w' => e = .returned (.bool (nameB s)) ∧ w = w' := by
 have hm : s.size ≤ 9223372036854775807 := by unfold maxLen at hs; omega
 clear hs
 by_cases e1 : s.size < 1
 ·have HF := Lib.hid (show nameB s = false by unfold nameB; simp; omega)
  go_enter Tryz.func45, Tryz.ntmps45
  go_wp2_with fail
  go_ret
  exact ⟨by rw [HF.out]; try rfl, rfl⟩
 ·by_cases e2 : 16 < s.size
  ·have HF := Lib.hid (show nameB s = false by unfold nameB; simp; omega)
   go_enter Tryz.func45, Tryz.ntmps45
   go_wp2_with fail
   go_ret
   exact ⟨by rw [HF.out]; try rfl, rfl⟩
  ·have hb0 := byt_get (s := s) (j := 0) (by omega)
   have hc0 := (s[0]'(by omega)).toNat_lt
   by_cases f1 : byt s 0 < 97
   ·have HF := Lib.hid (nameB_no (i := 0) (by omega) (show nmB 0 (byt s 0) = false by unfold nmB letB; simp; omega))
    go_enter Tryz.func45, Tryz.ntmps45
    go_wp2_with fail
    go_ret
    exact ⟨by rw [HF.out]; try rfl, rfl⟩
   ·by_cases f2 : 122 < byt s 0
    ·have HF := Lib.hid (nameB_no (i := 0) (by omega) (show nmB 0 (byt s 0) = false by unfold nmB letB; simp; omega))
     go_enter Tryz.func45, Tryz.ntmps45
     go_wp2_with fail
     go_ret
     exact ⟨by rw [HF.out]; try rfl, rfl⟩
    ·go_enter Tryz.func45, Tryz.ntmps45
     go_wp2_with fail
     go_loopg [3] s.size (NmR w s (fun j => nmB j (byt s j)))
     case atStart => exact ⟨0, by omega, rfl, fun j hj => by omega, rfl⟩
     case round =>
      obtain ⟨i, hi, rfl, hall, rfl⟩ := hrel
      have HA := Lib.hid hall
      clear hall
      by_cases hlt : i < s.size
      ·have hb := byt_get hlt
       have hc := (s[i]'hlt).toNat_lt
       by_cases a1 : 97 ≤ byt s i
       ·by_cases a2 : byt s i ≤ 122
        ·have HP := Lib.hid (show nmB i (byt s i) = true by unfold nmB letB; simp; omega)
         go_wp2_with fail
         go_roundg (gk - 1)
         case measure => omega
         case rel => exact ⟨i + 1, by omega, by go_num, nm_step HA.out HP.out, rfl⟩
        ·have gd : decide (122 < (byt s i : Int)) = true := decide_eq_true (by omega)
         have hi0 : i ≠ 0 := by
          intro e
          rw [e] at a2
          omega
         have g95 : ((byt s i : Int) != 95) = true := by simp; omega
         have g48 : decide ((byt s i : Int) < 48) = false := by simp; omega
         have g57 : decide (57 < (byt s i : Int)) = true := by simp; omega
         have HF := Lib.hid (nameB_no hlt (show nmB i (byt s i) = false by unfold nmB letB; simp; omega))
         go_wp2_with fail
         go_ret
         exact ⟨by rw [HF.out]; try rfl, rfl⟩
       ·have hi0 : i ≠ 0 := by
         intro e
         rw [e] at a1
         omega
        by_cases c48 : byt s i < 48
        ·have g95 : ((byt s i : Int) != 95) = true := by simp; omega
         have g48 : decide ((byt s i : Int) < 48) = true := by simp; omega
         have HF := Lib.hid (nameB_no hlt (show nmB i (byt s i) = false by unfold nmB letB; simp; omega))
         go_wp2_with fail
         go_ret
         exact ⟨by rw [HF.out]; try rfl, rfl⟩
        ·have g48 : decide ((byt s i : Int) < 48) = false := by simp; omega
         by_cases c57 : 57 < byt s i
         ·have g57 : decide (57 < (byt s i : Int)) = true := by simp; omega
          by_cases c95 : byt s i = 95
          ·have g95 : ((byt s i : Int) != 95) = false := by simp; omega
           have HP := Lib.hid (show nmB i (byt s i) = true by unfold nmB letB; simp; omega)
           go_wp2_with fail
           go_roundg (gk - 1)
           case measure => omega
           case rel => exact ⟨i + 1, by omega, by go_num, nm_step HA.out HP.out, rfl⟩
          ·have g95 : ((byt s i : Int) != 95) = true := by simp; omega
           have HF := Lib.hid (nameB_no hlt (show nmB i (byt s i) = false by unfold nmB letB; simp; omega))
           go_wp2_with fail
           go_ret
           exact ⟨by rw [HF.out]; try rfl, rfl⟩
         ·have g57 : decide (57 < (byt s i : Int)) = false := by simp; omega
          have HP := Lib.hid (show nmB i (byt s i) = true by unfold nmB letB; simp; omega)
          go_wp2_with fail
          go_roundg (gk - 1)
          case measure => omega
          case rel => exact ⟨i + 1, by omega, by go_num, nm_step HA.out HP.out, rfl⟩
      ·have hin : i = s.size := by omega
       have HU := Lib.hid (nameB_all (s := s) (fun j hj => HA.out j (by omega)))
       clear hin
       go_wp2_with fail
       go_ret
       exact ⟨by rw [HU.out]; simp; omega, rfl⟩
set_option maxHeartbeats 4000000 in
theorem rcode_any (s : ByteArray) (w : World) (hs : s.size ≤ maxLen) : Calls Tryz.prog 30 #[.string s] w fun e w' => e = .returned (.bool (codeB s)) ∧ w = w' := by
 have hm : s.size ≤ 9223372036854775807 := by unfold maxLen at hs; omega
 clear hs
 by_cases e1 : s.size = 3
 ·go_enter Tryz.func30, Tryz.ntmps30
  go_wp2_with fail
  go_loopg [3] s.size (NmR w s (fun j => upB (byt s j)))
  case atStart => exact ⟨0, by omega, rfl, fun j hj => by omega, rfl⟩
  case round =>
   obtain ⟨i, hi, rfl, hall, rfl⟩ := hrel
   have HA := Lib.hid hall
   clear hall
   by_cases hlt : i < s.size
   ·have hb := byt_get hlt
    have hc := (s[i]'hlt).toNat_lt
    by_cases a1 : byt s i < 65
    ·have HF := Lib.hid (codeB_no hlt (show (fun j => upB (byt s j)) i = false by show upB (byt s i) = _; unfold upB; simp; omega))
     go_wp2_with fail
     go_ret
     exact ⟨by rw [HF.out]; try rfl, rfl⟩
    ·by_cases a2 : 90 < byt s i
     ·have HF := Lib.hid (codeB_no hlt (show (fun j => upB (byt s j)) i = false by show upB (byt s i) = _; unfold upB; simp; omega))
      go_wp2_with fail
      go_ret
      exact ⟨by rw [HF.out]; try rfl, rfl⟩
     ·have HP := Lib.hid (show (fun j => upB (byt s j)) i = true by show upB (byt s i) = _; unfold upB; simp; omega)
      go_wp2_with fail
      go_roundg (gk - 1)
      case measure => omega
      case rel => exact ⟨i + 1, by omega, by go_num, nm_step HA.out HP.out, rfl⟩
   ·have hin : i = s.size := by omega
    have HU := Lib.hid (codeB_all (s := s) (fun j hj => HA.out j (by omega)))
    clear hin
    go_wp2_with fail
    go_ret
    exact ⟨by rw [HU.out]; simp; omega, rfl⟩
 ·have HF := Lib.hid (show codeB s = false by unfold codeB; simp; omega)
  go_enter Tryz.func30, Tryz.ntmps30
  go_wp2_with fail
  go_ret
  exact ⟨by rw [HF.out]; try rfl, rfl⟩
def CdR (w : World) (s : ByteArray) (g : Nat) (s3 : Value) (W : World) : Prop := ∃ i : Nat, i + g = s.size ∧ s3 = .int .i64 i ∧ (∀ j, j < i → upB (byt s j) = true) ∧ W = w.iter s i
end Go.Proofs.YtjhpiclnpmdjnaaGreatDoor.Kl

namespace Go.Proofs.YtjhpiclnpmdjnaaGreatDoor.Kl
open Go.RowKit
open Go.Proofs.YtjhpiclnpmdjnaaGreatDoor
set_option linter.unusedSimpArgs false
set_option maxRecDepth 100000

theorem bl2 {w W w1 : World} (hb : Below W.heap.size W w1) (h : Below w.heap.size w W) : Below w.heap.size w w1 := h.trans (hb.mono h.size)
def RsR (w : World) (l : List Int) (g : Nat) (s3 : Value) (W : World) : Prop := ∃ k : Nat, k + g = l.length ∧ s3 = .int .i64 ((k : Int) + 1) ∧ (∀ j, j < k + 1 → ((j == 0) || decide (l.getD (j - 1) 0 < l.getD j 0)) = true) ∧ Below w.heap.size w W
theorem risesB_no {l : List Int} {k : Nat} (hk : k + 1 < l.length) (h : ¬ l.getD k 0 < l.getD (k + 1) 0) : risesB l = false := by
 unfold risesB
 exact upto_no hk (by simp [List.getD_eq_getElem?_getD] at h ⊢; exact h)
theorem risesB_all {l : List Int} {k : Nat} (hk : l.length ≤ k + 1) (h : ∀ j, j < k + 1 → ((j == 0) || decide (l.getD (j - 1) 0 < l.getD j 0)) = true) : risesB l = true := by
 unfold risesB
 exact upto_yes (fun j hj => h j (by omega))
theorem rs_step {l : List Int} {k : Nat} (h : ∀ j, j < k + 1 → ((j == 0) || decide (l.getD (j - 1) 0 < l.getD j 0)) = true) (hk : l.getD k 0 < l.getD (k + 1) 0) : ∀ j, j < k + 1 + 1 → ((j == 0) || decide (l.getD (j - 1) 0 < l.getD j 0)) = true := fun j hj => by
 by_cases e : j = k + 1
 ·subst e
  rw [show k + 1 - 1 = k by omega, decide_eq_true hk, Bool.or_true]
 ·exact h j (by omega)
set_option maxHeartbeats 4000000 in
theorem rrises_any (a : Option Addr) (cap : Nat) (l : List Int) (w : World) (h : Bk.IntsIn w a l) : Calls Tryz.prog 65 #[.slice a l.length cap] w fun e w' => e = .returned (.bool (risesB l)) ∧ Below w.heap.size w w' := by
 have H := Lib.hid h
 have hln := h.1
 clear h
 go_enter Tryz.func65, Tryz.ntmps65
 go_wp2_with fail
 go_loopg [3] l.length (RsR w l)
 case atStart => exact ⟨0, by omega, rfl, fun j hj => (by
   have hj0 : j = 0 := by omega
   rw [hj0]
   rfl), Below.refl _ _⟩
 case round =>
  obtain ⟨k, hk, rfl, hall, hbr⟩ := hrel
  have HA := Lib.hid hall
  clear hall
  by_cases hlt : k + 1 < l.length
  ·obtain ⟨b, off, rfl, hc⟩ := H.out.2 (by omega)
   have c0 := cell_later hbr (hc k (by omega))
   have c1 := cell_later hbr (hc (k + 1) hlt)
   have hln := H.out.1
   clear hc
   have HN := Lib.hid (fun h => risesB_no (l := l) hlt h)
   have HS := Lib.hid (fun h => rs_step (l := l) HA.out h)
   have HG := Lib.hid (show l.getD k 0 = l.getD k 0 ∧ l.getD (k + 1) 0 = l.getD (k + 1) 0 from ⟨rfl, rfl⟩)
   have hw : IntKind.i64.wrap (k : Int) = k := by rw [IntKind.wrap_i64]; omega
   have hk1 : k < l.length := by omega
   have q0 : ∀ W', Reg.Cls wr W' → W'.cell? ⟨b, off + k, none⟩ = some (.int .i64 (l.getD k 0)) := fun W' hW => cell_later hW c0
   have q1 : ∀ W', Reg.Cls wr W' → W'.cell? ⟨b, off + (k + 1), none⟩ = some (.int .i64 (l.getD (k + 1) 0)) := fun W' hW => cell_later hW c1
   generalize l.getD k 0 = x at *
   generalize l.getD (k + 1) 0 = y at *
   clear c0 c1 HG
   by_cases hxy : x < y
   ·have gc : decide (y ≤ x) = false := decide_eq_false (by omega)
    go_upto_region 4 with fail
    refine Reg.region_quiet (by kernel_rfl) (by kernel_rfl) ?_
    iterate 10 (first | go_big_quiet_skip | (go_big_quiet_want; (first | (go_big_quiet_op; go_big_quiet_on) | (apply Reg.quiet_run; (intro W hW; skip; go_simp; (first | done | rfl | exact ⟨rfl, rfl⟩ )); (simp only [Act.put, List.setIfInBounds_toArray, List.set_cons_zero, List.set_cons_succ]; go_big_quiet_on)) | (apply Reg.quiet_call; (intro W hW; go_simp; (first | done | rfl | exact ⟨rfl, rfl⟩)); (intro W hW; (first | fail)); (simp only [Act.put, List.setIfInBounds_toArray, List.set_cons_zero, List.set_cons_succ]; go_big_quiet_on)))))
    refine wpQuiet_nil ?_
    intro w1 hW
    have hb1 : Below w.heap.size w w1 := bl2 hW hbr
    clear hW q0 q1
    go_wp2_with fail
    go_roundg (gk - 1)
    case measure => omega
    case rel => exact ⟨k + 1, by omega, by go_num, HS.out hxy, hb1⟩
   ·have gc : decide (y ≤ x) = true := decide_eq_true (by omega)
    go_upto_region 4 with fail
    refine Reg.region_quiet (by kernel_rfl) (by kernel_rfl) ?_
    iterate 10 (first | go_big_quiet_skip | (go_big_quiet_want; (first | (go_big_quiet_op; go_big_quiet_on) | (apply Reg.quiet_run; (intro W hW; skip; go_simp; (first | done | rfl | exact ⟨rfl, rfl⟩ )); (simp only [Act.put, List.setIfInBounds_toArray, List.set_cons_zero, List.set_cons_succ]; go_big_quiet_on)) | (apply Reg.quiet_call; (intro W hW; go_simp; (first | done | rfl | exact ⟨rfl, rfl⟩)); (intro W hW; (first | fail)); (simp only [Act.put, List.setIfInBounds_toArray, List.set_cons_zero, List.set_cons_succ]; go_big_quiet_on)))))
    refine wpQuiet_nil ?_
    intro w1 hW
    have hb1 : Below w.heap.size w w1 := bl2 hW hbr
    clear hW q0 q1
    go_wp2_with fail
    go_ret
    exact ⟨by rw [HN.out hxy]; try rfl, hb1⟩
  ·have HU := Lib.hid (risesB_all (l := l) (k := k) (by omega) HA.out)
   go_wp2_with fail
   go_ret
   exact ⟨by rw [HU.out]; try rfl, hbr⟩
def HsR (w : World) (l : List Int) (n : Int) (g : Nat) (s5 : Value) (W : World) : Prop := ∃ k : Nat, k + g = l.length ∧ s5 = .int .i64 k ∧ (∀ j, j < k → (l.getD j 0 != n) = true) ∧ w = W
def nonB (l : List Int) (p : Int → Bool) : Bool := upto l.length fun j => !p (l.getD j 0)
theorem inB_yes {l : List Int} {a b : Int} (h : ∀ j, j < l.length → decide (a ≤ l.getD j 0 ∧ l.getD j 0 ≤ b) = true) : inB l a b = true := upto_yes h
theorem inB_no {l : List Int} {a b : Int} {k : Nat} (hk : k < l.length) (h : decide (a ≤ l.getD k 0 ∧ l.getD k 0 ≤ b) = false) : inB l a b = false := upto_no hk h
def IfR (w : World) (l : List Int) (p : Int → Bool) (g : Nat) (s8 : Value) (W : World) : Prop := ∃ k : Nat, k + g = l.length ∧ s8 = .int .i64 k ∧ (∀ j, j < k → (fun j => !p (l.getD j 0)) j = true) ∧ Below w.heap.size w W
end Go.Proofs.YtjhpiclnpmdjnaaGreatDoor.Kl

namespace Go.Proofs.YtjhpiclnpmdjnaaGreatDoor.Kl
open Go.RowKit
open Go.Proofs.YtjhpiclnpmdjnaaGreatDoor
set_option linter.unusedSimpArgs false
set_option maxRecDepth 100000

def outB (a b n : Int) : Bool := decide (n < a) || decide (b < n)
def InR (w : World) (l : List Int) (a b : Int) (g : Nat) (s3 : Value) (W : World) : Prop := ∃ k : Nat, k + g = l.length ∧ s3 = .int .i64 k ∧ (∀ j, j < k → (fun j => decide (a ≤ l.getD j 0 ∧ l.getD j 0 ≤ b)) j = true) ∧ w = W
set_option maxHeartbeats 8000000 in
theorem rclchk_any (c : Cl) (wa ha : Option Addr) (wc hc : Nat) (w : World) (h : CalIn w c wa ha) : Calls Tryz.prog 31 #[(.agg #[.string (c).nm, .slice wa (c).wk.length wc, .slice ha (c).hol.length hc])] w fun e w' => e = .returned (.int .i64 (clE c)) ∧ Below w.heap.size w w' := by
 have cw : Below w.heap.size w (w.alloc (.cells #[.string c.nm, .slice wa c.wk.length wc, .slice ha c.hol.length hc] 55)) := (Below.refl _ _).alloc (Nat.le_refl _) _
 have k0 : Bk.Blk (w.alloc (.cells #[.string c.nm, .slice wa c.wk.length wc, .slice ha c.hol.length hc] 55)) w.heap.size _ 55 := Bk.Blk.nw10
 have hi := h.later cw
 have hw7 := hi.wk.1
 have hh7 := hi.hol.1
 clear h
 go_enter Tryz.func31, Tryz.ntmps31
 go_upto_region 1 with fail
 generalize (w.alloc (.cells _ 55)) = w1 at *
 have cw1 := cw
 clear cw
 have l0 := k0.c0
 have l1 := k0.c1
 have l2 := k0.c2
 go_wp2_with fail
 refine (rname_any c.nm _ hi.nm).mono ?_
 rintro e w' ⟨rfl, rfl⟩
 cases hn : nameB c.nm
 ·have HF := Lib.hid (show clE c = 4 by unfold clE; rw [if_pos hn])
  go_wp2_with fail
  go_ret
  exact ⟨by rw [HF.out]; try rfl, cw1⟩
 ·go_wp2_with fail
  go_loopg [3] c.wk.length (InR w1 c.wk 0 6)
  case atStart => exact ⟨0, by omega, rfl, fun j hj => by omega, rfl⟩
  case round =>
   obtain ⟨k, hk, rfl, hall, rfl⟩ := hrel
   have HA := Lib.hid hall
   clear hall
   by_cases hlt : k < c.wk.length
   ·obtain ⟨bb, off, hae, hc'⟩ := hi.wk.2 (by omega)
    have c0 := hc' k hlt
    clear hc'
    rw [hae] at l1
    have HB := Lib.hid (fun h => inB_no (l := c.wk) (a := 0) (b := 6) hlt h)
    have HP := Lib.hid (fun (h : decide (0 ≤ c.wk.getD k 0 ∧ c.wk.getD k 0 ≤ 6) = true) => nm_step HA.out h)
    generalize c.wk.getD k 0 = x at *
    clear hae
    by_cases x0 : x < 0
    ·have hj := HB.out (decide_eq_false (by omega))
     have HF := Lib.hid (show clE c = 1 by unfold clE; rw [if_neg (by rw [hn]; simp)]; rw [if_pos (by exact .inr (.inl hj))])
     go_wp2_with fail
     go_ret
     exact ⟨by rw [HF.out]; try rfl, cw1⟩
    ·by_cases x1 : 6 < x
     ·have hj := HB.out (decide_eq_false (by omega))
      have HF := Lib.hid (show clE c = 1 by unfold clE; rw [if_neg (by rw [hn]; simp)]; rw [if_pos (by exact .inr (.inl hj))])
      go_wp2_with fail
      go_ret
      exact ⟨by rw [HF.out]; try rfl, cw1⟩
     ·have hp := HP.out (decide_eq_true (by omega))
      clear HP HB
      go_wp2_with fail
      go_roundg (gk - 1)
      case measure => omega
      case rel => exact ⟨k + 1, by omega, by go_num, hp, rfl⟩
   ·have hi6 := inB_yes (l := c.wk) (a := 0) (b := 6) (fun j hj => HA.out j (by omega))
    clear HA
    by_cases h7 : 7 ≤ c.wk.length
    ·have HF := Lib.hid (show clE c = 1 by unfold clE; rw [if_neg (by rw [hn]; simp)]; rw [if_pos (by exact .inl h7)])
     go_wp2_with fail
     go_ret
     exact ⟨by rw [HF.out]; try rfl, cw1⟩
    ·go_wp2_with fail
     clear l0 l1 l2
     refine (rrises_any wa wc c.wk _ hi.wk).mono ?_
     rintro e w2 ⟨rfl, hb⟩
     replace k0 := k0.later hb
     replace hi := hi.later hb
     have cw2 := bl2 hb cw1
     clear hb cw1
     have l0 := k0.c0
     have l1 := k0.c1
     have l2 := k0.c2
     cases hr6 : risesB c.wk
     ·have HF := Lib.hid (show clE c = 1 by unfold clE; rw [if_neg (by rw [hn]; simp)]; rw [if_pos (by exact .inr (.inr hr6))])
      go_wp2_with fail
      go_ret
      exact ⟨by rw [HF.out]; try rfl, cw2⟩
     ·by_cases h4 : 400 < c.hol.length
      ·have HF := Lib.hid (show clE c = 5 by unfold clE; rw [if_neg (by rw [hn]; simp)]; rw [if_neg (by rw [hi6, hr6]; simp; omega)]; rw [if_pos (by exact h4)])
       go_wp2_with fail
       go_ret
       exact ⟨by rw [HF.out]; try rfl, cw2⟩
      ·go_wp2_with fail
       go_loopg [4] c.hol.length (InR w2 c.hol 0 73048)
       case atStart => exact ⟨0, by omega, rfl, fun j hj => by omega, rfl⟩
       case round =>
        obtain ⟨k, hk, rfl, hall, rfl⟩ := hrel
        have HA := Lib.hid hall
        clear hall
        by_cases hlt : k < c.hol.length
        ·obtain ⟨bb, off, hae, hc'⟩ := hi.hol.2 (by omega)
         have c0 := hc' k hlt
         clear hc'
         rw [hae] at l2
         have HB := Lib.hid (fun h => inB_no (l := c.hol) (a := 0) (b := 73048) hlt h)
         have HP := Lib.hid (fun (h : decide (0 ≤ c.hol.getD k 0 ∧ c.hol.getD k 0 ≤ 73048) = true) => nm_step HA.out h)
         generalize c.hol.getD k 0 = x at *
         clear hae
         by_cases x0 : x < 0 ∨ 73048 < x
         ·have hj := HB.out (decide_eq_false (by omega))
          have HF := Lib.hid (show clE c = 1 by unfold clE; rw [if_neg (by rw [hn]; simp)]; rw [if_neg (by rw [hi6, hr6]; simp; omega)]; rw [if_neg (by omega)]; rw [if_pos (by exact hj)])
          go_wp2_with fail
          refine (Dt.rvalid_no x _ x0).mono ?_
          rintro e w' ⟨rfl, rfl⟩
          go_wp2_with fail
          go_ret
          exact ⟨by rw [HF.out]; try rfl, cw2⟩
         ·have hp := HP.out (decide_eq_true (by omega))
          clear HP HB
          go_wp2_with fail
          refine (Dt.rvalid_yes x _ (by omega) (by omega)).mono ?_
          rintro e w' ⟨rfl, rfl⟩
          go_wp2_with fail
          go_roundg (gk - 1)
          case measure => omega
          case rel => exact ⟨k + 1, by omega, by go_num, hp, rfl⟩
        ·have hj := inB_yes (l := c.hol) (a := 0) (b := 73048) (fun j hj => HA.out j (by omega))
         clear HA
         go_wp2_with fail
         clear l0 l1 l2
         refine (rrises_any ha hc c.hol _ hi.hol).mono ?_
         rintro e w3 ⟨rfl, hb⟩
         replace k0 := k0.later hb
         replace hi := hi.later hb
         have cw3 := bl2 hb cw2
         clear hb cw2
         have l0 := k0.c0
         have l1 := k0.c1
         have l2 := k0.c2
         cases hs : risesB c.hol
         ·have HF := Lib.hid (show clE c = 10 by unfold clE; rw [if_neg (by rw [hn]; simp)]; rw [if_neg (by rw [hi6, hr6]; simp; omega)]; rw [if_neg (by omega)]; rw [if_neg (by rw [hj]; simp)]; rw [if_pos (by exact hs)])
          go_wp2_with fail
          go_ret
          exact ⟨by rw [HF.out]; try rfl, cw3⟩
         ·have HF := Lib.hid (show clE c = 0 by unfold clE; rw [if_neg (by rw [hn]; simp)]; rw [if_neg (by rw [hi6, hr6]; simp; omega)]; rw [if_neg (by omega)]; rw [if_neg (by rw [hj]; simp)]; rw [if_neg (by rw [hs]; simp)])
          go_wp2_with fail
          go_ret
          exact ⟨by rw [HF.out]; try rfl, cw3⟩
end Go.Proofs.YtjhpiclnpmdjnaaGreatDoor.Kl
namespace Go.Proofs.YtjhpiclnpmdjnaaGreatDoor.Kl
open Go.RowKit
open Go.Proofs.YtjhpiclnpmdjnaaGreatDoor
set_option linter.unusedSimpArgs false
set_option linter.unusedVariables false
set_option maxRecDepth 100000

end Go.Proofs.YtjhpiclnpmdjnaaGreatDoor.Kl

namespace Go.Proofs.YtjhpiclnpmdjnaaGreatDoor.Kl
open Go.RowKit
open Go.Proofs.YtjhpiclnpmdjnaaGreatDoor
set_option linter.unusedSimpArgs false
set_option linter.unusedVariables false
set_option maxRecDepth 100000

def SuR (w : World) (o : Option Int) (f : Int → Bool) (g : Nat) (s0 : Value) (W : World) : Prop := ∃ d : Int, d + g = 73049 ∧ 0 ≤ d ∧ s0 = .int .i64 d ∧ o = up f g d ∧ Below w.heap.size w W
def SdR (w : World) (o : Option Int) (f : Int → Bool) (g : Nat) (s0 : Value) (W : World) : Prop := ∃ d : Int, d + 1 = g ∧ d ≤ 73048 ∧ s0 = .int .i64 d ∧ o = dn f g d ∧ Below w.heap.size w W
def Tells (g : Nat) (lb : Array Value) (f : Int → Bool) (w : World) : Prop := ∀ (d : Int) (W : World), Below w.heap.size w W → Calls Tryz.prog g (#[.int .i64 d] ++ lb) W fun e w' => e = .returned (.bool (f d)) ∧ Below W.heap.size W w'
end Go.Proofs.YtjhpiclnpmdjnaaGreatDoor.Kl
