/-
  Calendars: lists of numbers: ascending, within, Contains; Check: the program's and the reference's.
-/
import Derived.Test.YtmdjikmpgckpbaaDoorKc1
import Derived.BigQuiet
import Derived.Deep.Cut
namespace Go.Proofs.YtmdjikmpgckpbaaDoor.Kl
open Go.RowKit
open Go.Proofs.YtmdjikmpgckpbaaDoor
set_option linter.unusedSimpArgs false
set_option maxRecDepth 100000

theorem bl2 {w W w1 : World} (hb : Below W.heap.size W w1) (h : Below w.heap.size w W) : Below w.heap.size w w1 := h.trans (hb.mono h.size)
/-- Where a loop over a list that begins with its second element stands. -/
def RsR (w : World) (l : List Int) (g : Nat) (s3 : Value) (W : World) : Prop := ∃ k : Nat, k + g = l.length ∧ s3 = .int .i64 ((k : Int) + 1) ∧ (∀ j, j < k + 1 → ((j == 0) || decide (l.getD (j - 1) 0 < l.getD j 0)) = true) ∧ Below w.heap.size w W
theorem risesB_no {l : List Int} {k : Nat} (hk : k + 1 < l.length) (h : ¬ l.getD k 0 < l.getD (k + 1) 0) : risesB l = false := by
  unfold risesB
  exact upto_no hk (by simp [List.getD_eq_getElem?_getD] at h ⊢; exact h)
theorem risesB_all {l : List Int} {k : Nat} (hk : l.length ≤ k + 1) (h : ∀ j, j < k + 1 → ((j == 0) || decide (l.getD (j - 1) 0 < l.getD j 0)) = true) : risesB l = true := by
  unfold risesB
  exact upto_yes (fun j hj => h j (by omega))
theorem rs_step {l : List Int} {k : Nat} (h : ∀ j, j < k + 1 → ((j == 0) || decide (l.getD (j - 1) 0 < l.getD j 0)) = true) (hk : l.getD k 0 < l.getD (k + 1) 0) : ∀ j, j < k + 1 + 1 → ((j == 0) || decide (l.getD (j - 1) 0 < l.getD j 0)) = true := fun j hj => by
  by_cases e : j = k + 1
  · subst e
    rw [show k + 1 - 1 = k by omega, decide_eq_true hk, Bool.or_true]
  · exact h j (by omega)
set_option maxHeartbeats 4000000 in
theorem rises_any (a : Option Addr) (cap : Nat) (l : List Int) (w : World) (h : Bk.IntsIn w a l) : Calls Tryd.prog 50 #[.slice a l.length cap] w fun e w' => e = .returned (.bool (risesB l)) ∧ Below w.heap.size w w' := by
  have H := Lib.hid h
  have hln := h.1
  clear h
  go_enter Tryd.func50, Tryd.ntmps50
  go_wp2_with fail
  go_loopg [3] l.length (RsR w l)
  case atStart => exact ⟨0, by omega, rfl, fun j hj => (by
      have hj0 : j = 0 := by omega
      rw [hj0]
      rfl), Below.refl _ _⟩
  case round =>
    obtain ⟨k, hk, rfl, hall, hbr⟩ := hrel
    have HA := Lib.hid hall
    clear hall
    by_cases hlt : k + 1 < l.length
    · obtain ⟨b, off, rfl, hc⟩ := H.out.2 (by omega)
      have c0 := cell_later hbr (hc k (by omega))
      have c1 := cell_later hbr (hc (k + 1) hlt)
      have hln := H.out.1
      clear hc
      have HN := Lib.hid (fun h => risesB_no (l := l) hlt h)
      have HS := Lib.hid (fun h => rs_step (l := l) HA.out h)
      have HG := Lib.hid (show l.getD k 0 = l.getD k 0 ∧ l.getD (k + 1) 0 = l.getD (k + 1) 0 from ⟨rfl, rfl⟩)
      have hw : IntKind.i64.wrap (k : Int) = k := by rw [IntKind.wrap_i64]; omega
      have hk1 : k < l.length := by omega
      have q0 : ∀ W', Reg.Cls wr W' → W'.cell? ⟨b, off + k, none⟩ = some (.int .i64 (l.getD k 0)) := fun W' hW => cell_later hW c0
      have q1 : ∀ W', Reg.Cls wr W' → W'.cell? ⟨b, off + (k + 1), none⟩ = some (.int .i64 (l.getD (k + 1) 0)) := fun W' hW => cell_later hW c1
      generalize l.getD k 0 = x at *
      generalize l.getD (k + 1) 0 = y at *
      clear c0 c1 HG
      by_cases hxy : x < y
      · have gc : decide (y ≤ x) = false := decide_eq_false (by omega)
        go_upto_region 4 with fail
        refine Reg.region_quiet (by kernel_rfl) (by kernel_rfl) ?_
        iterate 10 (first | go_big_quiet_skip | (go_big_quiet_want; (first | (go_big_quiet_op; go_big_quiet_on) | (apply Reg.quiet_run; (intro W hW; skip; go_simp; (first | done | rfl | exact ⟨rfl, rfl⟩ )); (simp only [Act.put, List.setIfInBounds_toArray, List.set_cons_zero, List.set_cons_succ]; go_big_quiet_on)) | (apply Reg.quiet_call; (intro W hW; go_simp; (first | done | rfl | exact ⟨rfl, rfl⟩)); (intro W hW; (first | fail)); (simp only [Act.put, List.setIfInBounds_toArray, List.set_cons_zero, List.set_cons_succ]; go_big_quiet_on)))))
        refine wpQuiet_nil ?_
        intro w1 hW
        have hb1 : Below w.heap.size w w1 := bl2 hW hbr
        clear hW q0 q1
        go_wp2_with fail
        go_roundg (gk - 1)
        case measure => omega
        case rel => exact ⟨k + 1, by omega, by go_num, HS.out hxy, hb1⟩
      · have gc : decide (y ≤ x) = true := decide_eq_true (by omega)
        go_upto_region 4 with fail
        refine Reg.region_quiet (by kernel_rfl) (by kernel_rfl) ?_
        iterate 10 (first | go_big_quiet_skip | (go_big_quiet_want; (first | (go_big_quiet_op; go_big_quiet_on) | (apply Reg.quiet_run; (intro W hW; skip; go_simp; (first | done | rfl | exact ⟨rfl, rfl⟩ )); (simp only [Act.put, List.setIfInBounds_toArray, List.set_cons_zero, List.set_cons_succ]; go_big_quiet_on)) | (apply Reg.quiet_call; (intro W hW; go_simp; (first | done | rfl | exact ⟨rfl, rfl⟩)); (intro W hW; (first | fail)); (simp only [Act.put, List.setIfInBounds_toArray, List.set_cons_zero, List.set_cons_succ]; go_big_quiet_on)))))
        refine wpQuiet_nil ?_
        intro w1 hW
        have hb1 : Below w.heap.size w w1 := bl2 hW hbr
        clear hW q0 q1
        go_wp2_with fail
        go_ret
        exact ⟨by rw [HN.out hxy]; try rfl, hb1⟩
    · have HU := Lib.hid (risesB_all (l := l) (k := k) (by omega) HA.out)
      go_wp2_with fail
      go_ret
      exact ⟨by rw [HU.out]; try rfl, hbr⟩
set_option maxHeartbeats 4000000 in
theorem rrises_any (a : Option Addr) (cap : Nat) (l : List Int) (w : World) (h : Bk.IntsIn w a l) : Calls Tryd.prog 52 #[.slice a l.length cap] w fun e w' => e = .returned (.bool (risesB l)) ∧ Below w.heap.size w w' := by
  have H := Lib.hid h
  have hln := h.1
  clear h
  go_enter Tryd.func52, Tryd.ntmps52
  go_wp2_with fail
  go_loopg [3] l.length (RsR w l)
  case atStart => exact ⟨0, by omega, rfl, fun j hj => (by
      have hj0 : j = 0 := by omega
      rw [hj0]
      rfl), Below.refl _ _⟩
  case round =>
    obtain ⟨k, hk, rfl, hall, hbr⟩ := hrel
    have HA := Lib.hid hall
    clear hall
    by_cases hlt : k + 1 < l.length
    · obtain ⟨b, off, rfl, hc⟩ := H.out.2 (by omega)
      have c0 := cell_later hbr (hc k (by omega))
      have c1 := cell_later hbr (hc (k + 1) hlt)
      have hln := H.out.1
      clear hc
      have HN := Lib.hid (fun h => risesB_no (l := l) hlt h)
      have HS := Lib.hid (fun h => rs_step (l := l) HA.out h)
      have HG := Lib.hid (show l.getD k 0 = l.getD k 0 ∧ l.getD (k + 1) 0 = l.getD (k + 1) 0 from ⟨rfl, rfl⟩)
      have hw : IntKind.i64.wrap (k : Int) = k := by rw [IntKind.wrap_i64]; omega
      have hk1 : k < l.length := by omega
      have q0 : ∀ W', Reg.Cls wr W' → W'.cell? ⟨b, off + k, none⟩ = some (.int .i64 (l.getD k 0)) := fun W' hW => cell_later hW c0
      have q1 : ∀ W', Reg.Cls wr W' → W'.cell? ⟨b, off + (k + 1), none⟩ = some (.int .i64 (l.getD (k + 1) 0)) := fun W' hW => cell_later hW c1
      generalize l.getD k 0 = x at *
      generalize l.getD (k + 1) 0 = y at *
      clear c0 c1 HG
      by_cases hxy : x < y
      · have gc : decide (y ≤ x) = false := decide_eq_false (by omega)
        go_upto_region 4 with fail
        refine Reg.region_quiet (by kernel_rfl) (by kernel_rfl) ?_
        iterate 10 (first | go_big_quiet_skip | (go_big_quiet_want; (first | (go_big_quiet_op; go_big_quiet_on) | (apply Reg.quiet_run; (intro W hW; skip; go_simp; (first | done | rfl | exact ⟨rfl, rfl⟩ )); (simp only [Act.put, List.setIfInBounds_toArray, List.set_cons_zero, List.set_cons_succ]; go_big_quiet_on)) | (apply Reg.quiet_call; (intro W hW; go_simp; (first | done | rfl | exact ⟨rfl, rfl⟩)); (intro W hW; (first | fail)); (simp only [Act.put, List.setIfInBounds_toArray, List.set_cons_zero, List.set_cons_succ]; go_big_quiet_on)))))
        refine wpQuiet_nil ?_
        intro w1 hW
        have hb1 : Below w.heap.size w w1 := bl2 hW hbr
        clear hW q0 q1
        go_wp2_with fail
        go_roundg (gk - 1)
        case measure => omega
        case rel => exact ⟨k + 1, by omega, by go_num, HS.out hxy, hb1⟩
      · have gc : decide (y ≤ x) = true := decide_eq_true (by omega)
        go_upto_region 4 with fail
        refine Reg.region_quiet (by kernel_rfl) (by kernel_rfl) ?_
        iterate 10 (first | go_big_quiet_skip | (go_big_quiet_want; (first | (go_big_quiet_op; go_big_quiet_on) | (apply Reg.quiet_run; (intro W hW; skip; go_simp; (first | done | rfl | exact ⟨rfl, rfl⟩ )); (simp only [Act.put, List.setIfInBounds_toArray, List.set_cons_zero, List.set_cons_succ]; go_big_quiet_on)) | (apply Reg.quiet_call; (intro W hW; go_simp; (first | done | rfl | exact ⟨rfl, rfl⟩)); (intro W hW; (first | fail)); (simp only [Act.put, List.setIfInBounds_toArray, List.set_cons_zero, List.set_cons_succ]; go_big_quiet_on)))))
        refine wpQuiet_nil ?_
        intro w1 hW
        have hb1 : Below w.heap.size w w1 := bl2 hW hbr
        clear hW q0 q1
        go_wp2_with fail
        go_ret
        exact ⟨by rw [HN.out hxy]; try rfl, hb1⟩
    · have HU := Lib.hid (risesB_all (l := l) (k := k) (by omega) HA.out)
      go_wp2_with fail
      go_ret
      exact ⟨by rw [HU.out]; try rfl, hbr⟩
/-- Where a search in a list stands. -/
def HsR (w : World) (l : List Int) (n : Int) (g : Nat) (s5 : Value) (W : World) : Prop := ∃ k : Nat, k + g = l.length ∧ s5 = .int .i64 k ∧ (∀ j, j < k → (l.getD j 0 != n) = true) ∧ w = W
theorem hasB_yes {l : List Int} {n : Int} {k : Nat} (hk : k < l.length) (h : l.getD k 0 = n) : hasB l n = true := by
  unfold hasB
  rw [upto_no hk (by rw [h]; simp)]
  rfl
theorem hasB_no {l : List Int} {n : Int} (h : ∀ j, j < l.length → (l.getD j 0 != n) = true) : hasB l n = false := by
  unfold hasB
  rw [upto_yes h]
  rfl
set_option maxHeartbeats 4000000 in
theorem rhas_any (a : Option Addr) (cap : Nat) (l : List Int) (n : Int) (w : World) (h : Bk.IntsIn w a l) : Calls Tryd.prog 86 #[.slice a l.length cap, .int .i64 n] w fun e w' => (e = .returned (.bool (hasB l n))) ∧ w = w' := by
  have H := Lib.hid h
  have hln := h.1
  clear h
  go_enter Tryd.func86, Tryd.ntmps86
  go_wp2_with fail
  go_loopg [5] l.length (HsR w l n)
  case atStart => exact ⟨0, by omega, rfl, fun j hj => by omega, rfl⟩
  case round =>
    obtain ⟨k, hk, rfl, hall, rfl⟩ := hrel
    have HA := Lib.hid hall
    clear hall
    by_cases hlt : k < l.length
    · obtain ⟨b, off, rfl, hc⟩ := H.out.2 (by omega)
      have c0 := hc k hlt
      clear hc
      by_cases hx : l.getD k 0 = n
      · have HY := Lib.hid (hasB_yes hlt hx)
        have ge : (l.getD k 0 == n) = true := by rw [hx]; exact beq_self_eq_true n
        clear hx
        generalize l.getD k 0 = x at *
        go_wp2_with fail
        go_ret
        exact ⟨by rw [HY.out]; try rfl, rfl⟩
      · have ge : (l.getD k 0 == n) = false := by first | exact beq_eq_false_iff_ne.2 hx | exact beq_eq_false_iff_ne.2 (Ne.symm hx)
        have HP := Lib.hid (show (fun j => l.getD j 0 != n) k = true from bne_iff_ne.2 hx)
        clear hx
        generalize l.getD k 0 = x at *
        go_wp2_with fail
        go_roundg (gk - 1)
        case measure => omega
        case rel => exact ⟨k + 1, by omega, by go_num, nm_step HA.out HP.out, rfl⟩
    · have HU := Lib.hid (hasB_no (l := l) (n := n) (fun j hj => HA.out j (by omega)))
      go_wp2_with fail
      go_ret
      exact ⟨by rw [HU.out]; try rfl, rfl⟩
set_option maxHeartbeats 4000000 in
theorem index_any (a : Option Addr) (cap : Nat) (l : List Int) (n : Int) (w : World) (h : Bk.IntsIn w a l) : Calls Tryd.prog 96 #[.slice a l.length cap, .int .i64 n] w fun e w' => (∃ r : Int, e = .returned (.int .i64 r) ∧ hasB l n = decide (0 ≤ r)) ∧ w = w' := by
  have H := Lib.hid h
  have hln := h.1
  clear h
  go_enter Tryd.func96, Tryd.ntmps96
  go_wp2_with fail
  go_loopg [8] l.length (HsR w l n)
  case atStart => exact ⟨0, by omega, rfl, fun j hj => by omega, rfl⟩
  case round =>
    obtain ⟨k, hk, rfl, hall, rfl⟩ := hrel
    have HA := Lib.hid hall
    clear hall
    by_cases hlt : k < l.length
    · obtain ⟨b, off, rfl, hc⟩ := H.out.2 (by omega)
      have c0 := hc k hlt
      clear hc
      by_cases hx : l.getD k 0 = n
      · have HY := Lib.hid (hasB_yes hlt hx)
        have ge : (n == l.getD k 0) = true := by rw [hx]; exact beq_self_eq_true n
        clear hx
        generalize l.getD k 0 = x at *
        go_wp2_with fail
        go_ret
        exact ⟨⟨k, rfl, by rw [HY.out]; simp⟩, rfl⟩
      · have ge : (n == l.getD k 0) = false := by first | exact beq_eq_false_iff_ne.2 hx | exact beq_eq_false_iff_ne.2 (Ne.symm hx)
        have HP := Lib.hid (show (fun j => l.getD j 0 != n) k = true from bne_iff_ne.2 hx)
        clear hx
        generalize l.getD k 0 = x at *
        go_wp2_with fail
        go_roundg (gk - 1)
        case measure => omega
        case rel => exact ⟨k + 1, by omega, by go_num, nm_step HA.out HP.out, rfl⟩
    · have HU := Lib.hid (hasB_no (l := l) (n := n) (fun j hj => HA.out j (by omega)))
      go_wp2_with fail
      go_ret
      exact ⟨⟨-1, rfl, by rw [HU.out]; rfl⟩, rfl⟩
theorem contains_any (a : Option Addr) (cap : Nat) (l : List Int) (n : Int) (w : World) (h : Bk.IntsIn w a l) : Calls Tryd.prog 84 #[.slice a l.length cap, .int .i64 n] w fun e w' => e = .returned (.bool (hasB l n)) ∧ w = w' := by
  have HI := Lib.hid (index_any a cap l n w h)
  clear h
  go_enter Tryd.func84, Tryd.ntmps84
  go_wp2_with fail
  refine HI.out.mono ?_
  rintro e w' ⟨⟨r, rfl, hr⟩, rfl⟩
  go_wp2_with fail
  go_ret
  exact ⟨by rw [hr]; try rfl, rfl⟩
/-- No number of a list meets p. -/
def nonB (l : List Int) (p : Int → Bool) : Bool := upto l.length fun j => !p (l.getD j 0)
theorem nonB_yes {l : List Int} {p : Int → Bool} (h : ∀ j, j < l.length → (fun j => !p (l.getD j 0)) j = true) : nonB l p = true := upto_yes h
theorem nonB_no {l : List Int} {p : Int → Bool} {k : Nat} (hk : k < l.length) (h : p (l.getD k 0) = true) : nonB l p = false := upto_no hk (by show (!p (l.getD k 0)) = false; rw [h]; rfl)
theorem inB_yes {l : List Int} {a b : Int} (h : ∀ j, j < l.length → decide (a ≤ l.getD j 0 ∧ l.getD j 0 ≤ b) = true) : inB l a b = true := upto_yes h
theorem inB_no {l : List Int} {a b : Int} {k : Nat} (hk : k < l.length) (h : decide (a ≤ l.getD k 0 ∧ l.getD k 0 ≤ b) = false) : inB l a b = false := upto_no hk h
/-- Where IndexFunc stands. -/
def IfR (w : World) (l : List Int) (p : Int → Bool) (g : Nat) (s8 : Value) (W : World) : Prop := ∃ k : Nat, k + g = l.length ∧ s8 = .int .i64 k ∧ (∀ j, j < k → (fun j => !p (l.getD j 0)) j = true) ∧ Below w.heap.size w W
set_option maxHeartbeats 4000000 in
theorem indexf_any (g : Nat) (lb : Array Value) (p : Int → Bool) (a : Option Addr) (cap : Nat) (l : List Int) (w : World) (h : Bk.IntsIn w a l) (eg : ∀ args w, (callFunc g args).run Tryd.prog w = .ok (.enter g args) w)
    (hp : ∀ (n : Int) (W : World), Below w.heap.size w W → Calls Tryd.prog g (#[.int .i64 n] ++ lb) W fun e w' => e = .returned (.bool (p n)) ∧ Below W.heap.size W w') :
    Calls Tryd.prog 83 #[.slice a l.length cap, .func (.func g) #[] lb] w fun e w' => (∃ r : Int, e = .returned (.int .i64 r) ∧ nonB l p = decide (r < 0)) ∧ Below w.heap.size w w' := by
  have H := Lib.hid h
  have HP := Lib.hid hp
  have hln := h.1
  clear h hp
  go_enter Tryd.func83, Tryd.ntmps83
  go_wp2_with fail
  go_loopg [8] l.length (IfR w l p)
  case atStart => exact ⟨0, by omega, rfl, fun j hj => by omega, Below.refl _ _⟩
  case round =>
    obtain ⟨k, hk, rfl, hall, hbr⟩ := hrel
    have HA := Lib.hid hall
    clear hall
    by_cases hlt : k < l.length
    · obtain ⟨b, off, rfl, hc⟩ := H.out.2 (by omega)
      have c0 := cell_later hbr (hc k hlt)
      have hcall := HP.out (l.getD k 0) wr hbr
      clear hc
      cases hv : p (l.getD k 0)
      · rw [hv] at hcall
        have HV := Lib.hid (show (fun j => !p (l.getD j 0)) k = true by show (!p (l.getD k 0)) = true; rw [hv]; rfl)
        clear hv
        generalize l.getD k 0 = x at *
        go_wp2_with fail
        refine hcall.mono ?_
        rintro e w1 ⟨rfl, hb⟩
        go_wp2_with fail
        go_roundg (gk - 1)
        case measure => omega
        case rel => exact ⟨k + 1, by omega, by go_num, nm_step HA.out HV.out, bl2 hb hbr⟩
      · rw [hv] at hcall
        have HV := Lib.hid (nonB_no (p := p) hlt hv)
        clear hv
        generalize l.getD k 0 = x at *
        go_wp2_with fail
        refine hcall.mono ?_
        rintro e w1 ⟨rfl, hb⟩
        go_wp2_with fail
        go_ret
        exact ⟨⟨k, rfl, by rw [HV.out]; simp⟩, bl2 hb hbr⟩
    · have HU := Lib.hid (nonB_yes (l := l) (p := p) (fun j hj => HA.out j (by omega)))
      go_wp2_with fail
      go_ret
      exact ⟨⟨-1, rfl, by rw [HU.out]; rfl⟩, hbr⟩
end Go.Proofs.YtmdjikmpgckpbaaDoor.Kl
