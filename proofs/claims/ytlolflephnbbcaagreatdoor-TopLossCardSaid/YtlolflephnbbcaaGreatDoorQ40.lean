/-
  Parts of the proof: Kcb.
-/
import Derived.Test.YtlolflephnbbcaaGreatDoorQ39
namespace Go.Proofs.YtlolflephnbbcaaGreatDoor.Kl
open Go.RowKit
open Go.Proofs.YtlolflephnbbcaaGreatDoor
set_option linter.unusedSimpArgs false
set_option linter.unusedVariables false
set_option maxRecDepth 100000

set_option maxHeartbeats 8000000 in
theorem open_any (c : Cl) (wa ha : Option Addr) (wc hc : Nat) (d : Int) (w : World) (h : CalIn w c wa ha) : Calls Tryz.prog 160 #[(.agg #[.string (c).nm, .slice wa (c).wk.length wc, .slice ha (c).hol.length hc]), .int .i64 d] w fun e w' => e = .returned (.bool (openB c d)) ∧ Below w.heap.size w w' := by
 have cw : Below w.heap.size w (w.alloc (.cells #[.string c.nm, .slice wa c.wk.length wc, .slice ha c.hol.length hc] 26)) := (Below.refl _ _).alloc (Nat.le_refl _) _
 have k0 : Bk.Blk (w.alloc (.cells #[.string c.nm, .slice wa c.wk.length wc, .slice ha c.hol.length hc] 26)) w.heap.size _ 26 := Bk.Blk.nw10
 have hi := h.later cw
 clear h
 go_enter Tryz.func160, Tryz.ntmps160
 go_upto_region 1 with fail
 generalize (w.alloc (.cells _ 26)) = w1 at *
 by_cases hd : 0 ≤ d ∧ d ≤ 73048
 ·obtain ⟨h0, h1⟩ := hd
  have K1 : ∀ (W : World), Reg.Cls w1 W → Calls Tryz.prog 192 #[.slice wa c.wk.length wc, .int .i64 ((d + 5) % 7)] W fun e w' => e = .returned (.bool (hasB c.wk ((d + 5) % 7))) ∧ W = w' := fun W hW => contains_any wa wc c.wk _ W (hi.later hW).wk
  have K2 : ∀ (W : World), Reg.Cls w1 W → Calls Tryz.prog 192 #[.slice ha c.hol.length hc, .int .i64 d] W fun e w' => e = .returned (.bool (hasB c.hol d)) ∧ W = w' := fun W hW => contains_any ha hc c.hol _ W (hi.later hW).hol
  cases hb1 : hasB c.wk ((d + 5) % 7)
  ·have HF := Lib.hid (show openB c d = !hasB c.hol d by unfold openB; rw [hb1, dOk_yes h0 h1]; simp)
   rw [hb1] at K1
   have HC1 := Lib.hid K1
   have HC2 := Lib.hid K2
   clear K1 K2 hb1
   generalize hasB c.hol d = b2v at *
   have q1 : ∀ W', Reg.Cls w1 W' → W'.cell? ⟨w.heap.size, 1, none⟩ = some (.slice wa c.wk.length wc) := fun W' hW => (k0.later hW).c1
   have q2 : ∀ W', Reg.Cls w1 W' → W'.cell? ⟨w.heap.size, 2, none⟩ = some (.slice ha c.hol.length hc) := fun W' hW => (k0.later hW).c2
   refine Reg.region_quiet (by kernel_rfl) (by kernel_rfl) ?_
   iterate 18 (first | go_big_quiet_skip | (go_big_quiet_want; (first | (go_big_quiet_op; go_big_quiet_on) | (apply Reg.quiet_run; (intro W hW; skip; go_simp; (first | done | rfl | exact ⟨rfl, rfl⟩ )); (simp only [Act.put, List.setIfInBounds_toArray, List.set_cons_zero, List.set_cons_succ]; go_big_quiet_on)) | (apply Reg.quiet_call; (intro W hW; go_simp; (first | done | rfl | exact ⟨rfl, rfl⟩)); (intro W hW; (first | (go_at_call 71; exact Reg.cls_same hW (Dt.valid_yes d _ h0 h1)) | (go_at_call 193; exact Reg.cls_same hW (Dt.wday_any d _ h0 h1)) | (go_at_call 192; with_reducible exact Reg.cls_same hW (HC1.out _ hW)) | (go_at_call 192; with_reducible exact Reg.cls_same hW (HC2.out _ hW)))); (simp only [Act.put, List.setIfInBounds_toArray, List.set_cons_zero, List.set_cons_succ]; go_big_quiet_on)))))
   refine wpQuiet_nil ?_
   intro w2 hW
   have b2 := bl2 hW cw
   clear hW q1 q2
   go_wp2_with fail
   go_ret
   exact ⟨by rw [HF.out]; try rfl, b2⟩
  ·have HF := Lib.hid (show openB c d = false by unfold openB; rw [hb1]; simp)
   rw [hb1] at K1
   have HC1 := Lib.hid K1
   clear K1 K2 hb1
   have q1 : ∀ W', Reg.Cls w1 W' → W'.cell? ⟨w.heap.size, 1, none⟩ = some (.slice wa c.wk.length wc) := fun W' hW => (k0.later hW).c1
   have q2 : ∀ W', Reg.Cls w1 W' → W'.cell? ⟨w.heap.size, 2, none⟩ = some (.slice ha c.hol.length hc) := fun W' hW => (k0.later hW).c2
   refine Reg.region_quiet (by kernel_rfl) (by kernel_rfl) ?_
   iterate 18 (first | go_big_quiet_skip | (go_big_quiet_want; (first | (go_big_quiet_op; go_big_quiet_on) | (apply Reg.quiet_run; (intro W hW; skip; go_simp; (first | done | rfl | exact ⟨rfl, rfl⟩ )); (simp only [Act.put, List.setIfInBounds_toArray, List.set_cons_zero, List.set_cons_succ]; go_big_quiet_on)) | (apply Reg.quiet_call; (intro W hW; go_simp; (first | done | rfl | exact ⟨rfl, rfl⟩)); (intro W hW; (first | (go_at_call 71; exact Reg.cls_same hW (Dt.valid_yes d _ h0 h1)) | (go_at_call 193; exact Reg.cls_same hW (Dt.wday_any d _ h0 h1)) | (go_at_call 192; with_reducible exact Reg.cls_same hW (HC1.out _ hW)))); (simp only [Act.put, List.setIfInBounds_toArray, List.set_cons_zero, List.set_cons_succ]; go_big_quiet_on)))))
   refine wpQuiet_nil ?_
   intro w2 hW
   have b2 := bl2 hW cw
   clear hW q1 q2
   go_wp2_with fail
   go_ret
   exact ⟨by rw [HF.out]; try rfl, b2⟩
 ·have HF := Lib.hid (show openB c d = false by unfold openB; rw [dOk_no hd]; simp)
  have q1 : ∀ W', Reg.Cls w1 W' → W'.cell? ⟨w.heap.size, 1, none⟩ = some (.slice wa c.wk.length wc) := fun W' hW => (k0.later hW).c1
  have q2 : ∀ W', Reg.Cls w1 W' → W'.cell? ⟨w.heap.size, 2, none⟩ = some (.slice ha c.hol.length hc) := fun W' hW => (k0.later hW).c2
  refine Reg.region_quiet (by kernel_rfl) (by kernel_rfl) ?_
  iterate 18 (first | go_big_quiet_skip | (go_big_quiet_want; (first | (go_big_quiet_op; go_big_quiet_on) | (apply Reg.quiet_run; (intro W hW; skip; go_simp; (first | done | rfl | exact ⟨rfl, rfl⟩ )); (simp only [Act.put, List.setIfInBounds_toArray, List.set_cons_zero, List.set_cons_succ]; go_big_quiet_on)) | (apply Reg.quiet_call; (intro W hW; go_simp; (first | done | rfl | exact ⟨rfl, rfl⟩)); (intro W hW; (first | (go_at_call 71; exact Reg.cls_same hW (Dt.valid_no d _ (by omega))))); (simp only [Act.put, List.setIfInBounds_toArray, List.set_cons_zero, List.set_cons_succ]; go_big_quiet_on)))))
  refine wpQuiet_nil ?_
  intro w2 hW
  have b2 := bl2 hW cw
  clear hW q1 q2
  go_wp2_with fail
  go_ret
  exact ⟨by rw [HF.out]; try rfl, b2⟩
end Go.Proofs.YtlolflephnbbcaaGreatDoor.Kl

namespace Go.Proofs.YtlolflephnbbcaaGreatDoor.Kl
open Go.RowKit
open Go.Proofs.YtlolflephnbbcaaGreatDoor
set_option linter.unusedSimpArgs false
set_option linter.unusedVariables false
set_option maxRecDepth 100000

def SuR (w : World) (o : Option Int) (f : Int → Bool) (g : Nat) (s0 : Value) (W : World) : Prop := ∃ d : Int, d + g = 73049 ∧ 0 ≤ d ∧ s0 = .int .i64 d ∧ o = up f g d ∧ Below w.heap.size w W
def SdR (w : World) (o : Option Int) (f : Int → Bool) (g : Nat) (s0 : Value) (W : World) : Prop := ∃ d : Int, d + 1 = g ∧ d ≤ 73048 ∧ s0 = .int .i64 d ∧ o = dn f g d ∧ Below w.heap.size w W
theorem up_hit {f : Int → Bool} {n : Nat} {d : Int} (h : f d = true) : up f (n + 1) d = some d := by unfold up; rw [h]; rfl
theorem up_go {f : Int → Bool} {n : Nat} {d : Int} (h : f d = false) : up f (n + 1) d = up f n (d + 1) := by
 have e : up f (n + 1) d = if f d then some d else up f n (d + 1) := rfl
 rw [e, h]; rfl
theorem dn_hit {f : Int → Bool} {n : Nat} {d : Int} (h : f d = true) : dn f (n + 1) d = some d := by unfold dn; rw [h]; rfl
theorem dn_go {f : Int → Bool} {n : Nat} {d : Int} (h : f d = false) : dn f (n + 1) d = dn f n (d - 1) := by
 have e : dn f (n + 1) d = if f d then some d else dn f n (d - 1) := rfl
 rw [e, h]; rfl
theorem oV_some (x : Int) : oV (some x) = x := rfl
theorem oE_some (x e : Int) : oE (some x) e = 0 := rfl
theorem oV_none : oV none = 0 := rfl
theorem oE_none (e : Int) : oE none e = e := rfl
def Tells (g : Nat) (lb : Array Value) (f : Int → Bool) (w : World) : Prop := ∀ (d : Int) (W : World), Below w.heap.size w W → Calls Tryz.prog g (#[.int .i64 d] ++ lb) W fun e w' => e = .returned (.bool (f d)) ∧ Below W.heap.size W w'
set_option maxHeartbeats 4000000 in
theorem search_up (g : Nat) (lb : Array Value) (f : Int → Bool) (d0 : Int) (w : World) (h0 : 0 ≤ d0) (h1 : d0 ≤ 73048) (eg : ∀ args w, (callFunc g args).run Tryz.prog w = .ok (.enter g args) w) (hp : Tells g lb f w) :
  Calls Tryz.prog 158 #[.int .i64 d0, .int .i64 1, .func (.func g) #[] lb] w fun e w' => e = .returned (.tuple #[.int .i64 (oV (up f (73049 - d0).toNat d0)), .int .i64 (oE (up f (73049 - d0).toNat d0) 11)]) ∧ Below w.heap.size w w' := by
 have HP := Lib.hid hp
 clear hp
 obtain ⟨o, ho0⟩ : ∃ o, up f (73049 - d0).toNat d0 = o := ⟨_, rfl⟩
 rw [ho0]
 go_enter Tryz.func158, Tryz.ntmps158
 go_wp2_with fail
 refine (Dt.valid_yes d0 _ h0 h1).mono ?_
 rintro e w' ⟨rfl, rfl⟩
 go_wp2_with fail
 go_loopg [0] (73049 - d0).toNat (SuR w o f)
 case atStart => exact ⟨d0, by omega, by omega, rfl, ho0.symm, Below.refl _ _⟩
 case round =>
  clear ho0 h0 h1
  obtain ⟨d, hk, hd0, rfl, ho, hbr⟩ := hrel
  by_cases hlt : 0 < gk
  ·obtain ⟨m, rfl⟩ : ∃ m, gk = m + 1 := ⟨gk - 1, by omega⟩
   have hcall := HP.out d wr hbr
   cases hv : f d
   ·rw [hv] at hcall
    have HG := Lib.hid (ho.trans (up_go hv))
    clear hv ho
    go_wp2_with fail
    refine (Dt.valid_yes d _ (by omega) (by omega)).mono ?_
    rintro e w' ⟨rfl, rfl⟩
    go_wp2_with fail
    refine hcall.mono ?_
    rintro e w1 ⟨rfl, hb⟩
    go_wp2_with fail
    go_roundg m
    case measure => omega
    case rel => exact ⟨(d + 1), by omega, by omega, by go_num, HG.out, bl2 hb hbr⟩
   ·rw [hv] at hcall
    have HG := Lib.hid (ho.trans (up_hit hv))
    clear hv ho
    go_wp2_with fail
    refine (Dt.valid_yes d _ (by omega) (by omega)).mono ?_
    rintro e w' ⟨rfl, rfl⟩
    go_wp2_with fail
    refine hcall.mono ?_
    rintro e w1 ⟨rfl, hb⟩
    go_wp2_with fail
    go_ret2
    exact ⟨by rw [HG.out]; rfl, bl2 hb hbr⟩
  ·obtain rfl : gk = 0 := by omega
   obtain rfl : d = 73049 := by omega
   have HG := Lib.hid ho
   clear ho
   go_wp2_with fail
   refine (Dt.valid_no 73049 _ (by omega)).mono ?_
   rintro e w' ⟨rfl, rfl⟩
   go_wp2_with fail
   go_ret2
   exact ⟨by rw [HG.out]; rfl, hbr⟩
set_option maxHeartbeats 4000000 in
theorem search_dn (g : Nat) (lb : Array Value) (f : Int → Bool) (d0 : Int) (w : World) (h0 : 0 ≤ d0) (h1 : d0 ≤ 73048) (eg : ∀ args w, (callFunc g args).run Tryz.prog w = .ok (.enter g args) w) (hp : Tells g lb f w) :
  Calls Tryz.prog 158 #[.int .i64 d0, .int .i64 (-1), .func (.func g) #[] lb] w fun e w' => e = .returned (.tuple #[.int .i64 (oV (dn f (d0 + 1).toNat d0)), .int .i64 (oE (dn f (d0 + 1).toNat d0) 11)]) ∧ Below w.heap.size w w' := by
 have HP := Lib.hid hp
 clear hp
 obtain ⟨o, ho0⟩ : ∃ o, dn f (d0 + 1).toNat d0 = o := ⟨_, rfl⟩
 rw [ho0]
 go_enter Tryz.func158, Tryz.ntmps158
 go_wp2_with fail
 refine (Dt.valid_yes d0 _ h0 h1).mono ?_
 rintro e w' ⟨rfl, rfl⟩
 go_wp2_with fail
 go_loopg [0] (d0 + 1).toNat (SdR w o f)
 case atStart => exact ⟨d0, by omega, by omega, rfl, ho0.symm, Below.refl _ _⟩
 case round =>
  clear ho0 h0 h1
  obtain ⟨d, hk, hd0, rfl, ho, hbr⟩ := hrel
  by_cases hlt : 0 < gk
  ·obtain ⟨m, rfl⟩ : ∃ m, gk = m + 1 := ⟨gk - 1, by omega⟩
   have hcall := HP.out d wr hbr
   cases hv : f d
   ·rw [hv] at hcall
    have HG := Lib.hid (ho.trans (dn_go hv))
    clear hv ho
    go_wp2_with fail
    refine (Dt.valid_yes d _ (by omega) (by omega)).mono ?_
    rintro e w' ⟨rfl, rfl⟩
    go_wp2_with fail
    refine hcall.mono ?_
    rintro e w1 ⟨rfl, hb⟩
    go_wp2_with fail
    go_roundg m
    case measure => omega
    case rel => exact ⟨(d - 1), by omega, by omega, by go_num, HG.out, bl2 hb hbr⟩
   ·rw [hv] at hcall
    have HG := Lib.hid (ho.trans (dn_hit hv))
    clear hv ho
    go_wp2_with fail
    refine (Dt.valid_yes d _ (by omega) (by omega)).mono ?_
    rintro e w' ⟨rfl, rfl⟩
    go_wp2_with fail
    refine hcall.mono ?_
    rintro e w1 ⟨rfl, hb⟩
    go_wp2_with fail
    go_ret2
    exact ⟨by rw [HG.out]; rfl, bl2 hb hbr⟩
  ·obtain rfl : gk = 0 := by omega
   obtain rfl : d = (-1) := by omega
   have HG := Lib.hid ho
   clear ho
   go_wp2_with fail
   refine (Dt.valid_no (-1) _ (by omega)).mono ?_
   rintro e w' ⟨rfl, rfl⟩
   go_wp2_with fail
   go_ret2
   exact ⟨by rw [HG.out]; rfl, hbr⟩
theorem next1_any (c : Cl) (wa ha : Option Addr) (wc hc : Nat) (g0 : Nat) (d : Int) (w : World) (h : CalIn w c wa ha) (k0 : Bk.Blk w g0 #[.string c.nm, .slice wa c.wk.length wc, .slice ha c.hol.length hc] 26) : Calls Tryz.prog 159 #[.int .i64 d, .pointer (some ⟨g0, 0, none⟩)] w fun e w' => e = .returned (.bool (openB c d)) ∧ Below w.heap.size w w' := by
 have HO := Lib.hid (open_any c wa ha wc hc d w h)
 have l0 := k0.c0
 have l1 := k0.c1
 have l2 := k0.c2
 clear h k0
 go_enter Tryz.func159, Tryz.ntmps159
 go_wp2_with fail
 refine HO.out.mono ?_
 rintro e w1 ⟨rfl, hb⟩
 go_wp2_with fail
 go_ret
 exact ⟨rfl, hb⟩
theorem next_any (c : Cl) (wa ha : Option Addr) (wc hc : Nat) (d : Int) (w : World) (h : CalIn w c wa ha) (h0 : 0 ≤ d) (h1 : d ≤ 73048) : Calls Tryz.prog 117 #[(.agg #[.string (c).nm, .slice wa (c).wk.length wc, .slice ha (c).hol.length hc]), .int .i64 d] w fun e w' => e = .returned (.tuple #[.int .i64 (oV (nxt c d)), .int .i64 (oE (nxt c d) 11)]) ∧ Below w.heap.size w w' := by
 have cw : Below w.heap.size w (w.alloc (.cells #[.string c.nm, .slice wa c.wk.length wc, .slice ha c.hol.length hc] 26)) := (Below.refl _ _).alloc (Nat.le_refl _) _
 have k0 : Bk.Blk (w.alloc (.cells #[.string c.nm, .slice wa c.wk.length wc, .slice ha c.hol.length hc] 26)) w.heap.size _ 26 := Bk.Blk.nw10
 have hi := h.later cw
 clear h
 go_enter Tryz.func117, Tryz.ntmps117
 go_upto_region 1 with fail
 generalize (w.alloc (.cells _ 26)) = w1 at *
 have HS := Lib.hid (search_up 159 #[.pointer (some ⟨w.heap.size, 0, none⟩)] (openB c) d w1 h0 h1 (fun _ _ => rfl) (fun d W hW => next1_any c wa ha wc hc _ d W (hi.later hW) (k0.later hW)))
 go_wp2_with fail
 refine HS.out.mono ?_
 rintro e w2 ⟨rfl, hb⟩
 have cw2 := bl2 hb cw
 go_wp2_with fail
 go_ret2
 exact ⟨rfl, cw2⟩
theorem prev1_any (c : Cl) (wa ha : Option Addr) (wc hc : Nat) (g0 : Nat) (d : Int) (w : World) (h : CalIn w c wa ha) (k0 : Bk.Blk w g0 #[.string c.nm, .slice wa c.wk.length wc, .slice ha c.hol.length hc] 26) : Calls Tryz.prog 161 #[.int .i64 d, .pointer (some ⟨g0, 0, none⟩)] w fun e w' => e = .returned (.bool (openB c d)) ∧ Below w.heap.size w w' := by
 have HO := Lib.hid (open_any c wa ha wc hc d w h)
 have l0 := k0.c0
 have l1 := k0.c1
 have l2 := k0.c2
 clear h k0
 go_enter Tryz.func161, Tryz.ntmps161
 go_wp2_with fail
 refine HO.out.mono ?_
 rintro e w1 ⟨rfl, hb⟩
 go_wp2_with fail
 go_ret
 exact ⟨rfl, hb⟩
theorem prev_any (c : Cl) (wa ha : Option Addr) (wc hc : Nat) (d : Int) (w : World) (h : CalIn w c wa ha) (h0 : 0 ≤ d) (h1 : d ≤ 73048) : Calls Tryz.prog 118 #[(.agg #[.string (c).nm, .slice wa (c).wk.length wc, .slice ha (c).hol.length hc]), .int .i64 d] w fun e w' => e = .returned (.tuple #[.int .i64 (oV (prv c d)), .int .i64 (oE (prv c d) 11)]) ∧ Below w.heap.size w w' := by
 have cw : Below w.heap.size w (w.alloc (.cells #[.string c.nm, .slice wa c.wk.length wc, .slice ha c.hol.length hc] 26)) := (Below.refl _ _).alloc (Nat.le_refl _) _
 have k0 : Bk.Blk (w.alloc (.cells #[.string c.nm, .slice wa c.wk.length wc, .slice ha c.hol.length hc] 26)) w.heap.size _ 26 := Bk.Blk.nw10
 have hi := h.later cw
 clear h
 go_enter Tryz.func118, Tryz.ntmps118
 go_upto_region 1 with fail
 generalize (w.alloc (.cells _ 26)) = w1 at *
 have HS := Lib.hid (search_dn 161 #[.pointer (some ⟨w.heap.size, 0, none⟩)] (openB c) d w1 h0 h1 (fun _ _ => rfl) (fun d W hW => prev1_any c wa ha wc hc _ d W (hi.later hW) (k0.later hW)))
 go_wp2_with fail
 refine HS.out.mono ?_
 rintro e w2 ⟨rfl, hb⟩
 have cw2 := bl2 hb cw
 go_wp2_with fail
 go_ret2
 exact ⟨rfl, cw2⟩
set_option maxHeartbeats 4000000 in
theorem adj_any (c : Cl) (wa ha : Option Addr) (wc hc : Nat) (d : Int) (w : World) (h : CalIn w c wa ha) (h0 : 0 ≤ d) (h1 : d ≤ 73048) : Calls Tryz.prog 75 #[(.agg #[.string (c).nm, .slice wa (c).wk.length wc, .slice ha (c).hol.length hc]), .int .i64 d, .int .i64 2] w fun e w' => e = .returned (.tuple #[.int .i64 (oV (adj c d)), .int .i64 (oE (adj c d) 11)]) ∧ Below w.heap.size w w' := by
 have cw : Below w.heap.size w (w.alloc (.cells #[.string c.nm, .slice wa c.wk.length wc, .slice ha c.hol.length hc] 26)) := (Below.refl _ _).alloc (Nat.le_refl _) _
 have k0 : Bk.Blk (w.alloc (.cells #[.string c.nm, .slice wa c.wk.length wc, .slice ha c.hol.length hc] 26)) w.heap.size _ 26 := Bk.Blk.nw10
 have hi := h.later cw
 clear h
 go_enter Tryz.func75, Tryz.ntmps75
 go_upto_region 1 with fail
 generalize (w.alloc (.cells _ 26)) = w1 at *
 have cw1 := cw
 clear cw
 go_wp2_with fail
 refine (Dt.valid_yes d _ h0 h1).mono ?_
 rintro e w' ⟨rfl, rfl⟩
 have l0 := k0.c0
 have l1 := k0.c1
 have l2 := k0.c2
 go_wp2_with fail
 clear l0 l1 l2
 refine (next_any c wa ha wc hc d _ hi h0 h1).mono ?_
 rintro e w2 ⟨rfl, hb⟩
 replace k0 := k0.later hb
 replace hi := hi.later hb
 have cw2 := bl2 hb cw1
 clear hb cw1
 cases hx : nxt c d with
 | none =>
  have HF := Lib.hid (show adj c d = prv c d by unfold adj; rw [hx])
  clear hx
  simp only [oV_none, oE_none]
  have l0 := k0.c0
  have l1 := k0.c1
  have l2 := k0.c2
  go_wp2_with fail
  clear l0 l1 l2
  refine (prev_any c wa ha wc hc d _ hi h0 h1).mono ?_
  rintro e w4 ⟨rfl, hb⟩
  replace k0 := k0.later hb
  replace hi := hi.later hb
  have cw4 := bl2 hb cw2
  clear hb cw2
  go_wp2_with fail
  go_ret2
  exact ⟨by rw [HF.out]; try rfl, cw4⟩
 | some x =>
  simp only [oV_some, oE_some]
  go_wp2_with fail
  refine (Dt.mend_any d _ h0 h1).mono ?_
  rintro e w3 ⟨rfl, hb⟩
  replace k0 := k0.later hb
  replace hi := hi.later hb
  have cw3 := bl2 hb cw2
  clear hb cw2
  by_cases hm : x ≤ mend d
  ·have HF := Lib.hid (show adj c d = some x by unfold adj; rw [hx]; exact if_pos hm)
   clear hx
   generalize mend d = md at *
   go_wp2_with fail
   go_ret2
   exact ⟨by rw [HF.out]; try rfl, cw3⟩
  ·have HF := Lib.hid (show adj c d = prv c d by unfold adj; rw [hx]; exact if_neg hm)
   clear hx
   generalize mend d = md at *
   have l0 := k0.c0
   have l1 := k0.c1
   have l2 := k0.c2
   go_wp2_with fail
   clear l0 l1 l2
   refine (prev_any c wa ha wc hc d _ hi h0 h1).mono ?_
   rintro e w4 ⟨rfl, hb⟩
   replace k0 := k0.later hb
   replace hi := hi.later hb
   have cw4 := bl2 hb cw3
   clear hb cw3
   go_wp2_with fail
   go_ret2
   exact ⟨by rw [HF.out]; try rfl, cw4⟩
end Go.Proofs.YtlolflephnbbcaaGreatDoor.Kl
