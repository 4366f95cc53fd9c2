/-
  Parts of the proof: Eck, Jps.
-/
import Derived.Test.YtjhpiclnpmdjnaaGreatDoorQ21
import Derived.Test.YtjhpiclnpmdjnaaGreatDoorQ12
import Derived.Test.YtjhpiclnpmdjnaaGreatDoorQ16
import Derived.Test.YtjhpiclnpmdjnaaGreatDoorQ17
namespace Go.Proofs.YtjhpiclnpmdjnaaGreatDoor.Bm
open Go Go.RowKit
open Go.Proofs.YtjhpiclnpmdjnaaGreatDoor
open Go.Proofs.YtjhpiclnpmdjnaaGreatDoor.Ln (flat flat_len flat_get flat_mem RowIn OwnR Idx bl2 results2_cell Blk_setRow_same Blk_setRow_ne Below_setRow take_at one_at call_wp value_wp SB tk ts z0 z1 z2 z3 z4 z5)
open Go.Proofs.YtjhpiclnpmdjnaaGreatDoor.Sr (GV)
open Go.Proofs.YtjhpiclnpmdjnaaGreatDoor.Kl (codeB)
set_option linter.unusedSimpArgs false
set_option linter.unusedVariables false
set_option maxRecDepth 100000
def dyB (n : Int) : Bool := decide (0 ≤ n ∧ n ≤ 73048)
def legC (x : Lg) : Int := if x.ac < 1 ∨ x.am = 0 ∨ x.am < -1000000000000 ∨ 1000000000000 < x.am then 1 else if codeB x.cu = true then 0 else 14
def legsC : List Lg → Int
 | [] => 0
 | x :: t => if legC x ≠ 0 then legC x else legsC t
def ckE (e : En) : Int :=
 if keyB e.ke = false then 4 else if (txtB 32 64 e.tx && dyB e.bo && dyB e.va && dyB e.pe) = false then 1
 else if (decide (1 ≤ e.ki) && decide (e.ki ≤ 14) && decide (0 ≤ e.au) && decide (e.au ≤ 3)) = false then 1
 else if (decide (2 ≤ e.lg.length) && decide (e.lg.length ≤ 12)) = false then 5
 else if legsC e.lg ≠ 0 then legsC e.lg else if balB e.lg = true then 0 else 15
theorem legs_at : ∀ {l : List Lg} {k : Nat}, k < l.length → (∀ j, j < k → legC l[j]! = 0) → legC l[k]! ≠ 0 → legsC l = legC l[k]!
 | [], k, h, _, _ => absurd h (Nat.not_lt_zero _)
 | x :: t, 0, _, _, h => by
  have h' : legC x ≠ 0 := h
  show (if legC x ≠ 0 then legC x else legsC t) = legC x
  rw [if_pos h']
 | x :: t, k + 1, hk, ha, h => by
  have h0 : legC x = 0 := ha 0 (Nat.succ_pos _)
  have e : ∀ j, j < t.length → (x :: t)[j + 1]! = t[j]! := fun j hj => by
   rw [getElem!_pos (x :: t) (j + 1) (by simpa using hj), getElem!_pos t j hj]; rfl
  have hk' : k < t.length := by simpa using hk
  show (if legC x ≠ 0 then legC x else legsC t) = _
  rw [if_neg (by rw [h0]; simp), e k hk']
  exact legs_at hk' (fun j hj => by rw [← e j (by omega)]; exact ha (j + 1) (by omega)) (by rw [← e k hk']; exact h)
theorem legs_ok : ∀ {l : List Lg}, (∀ j, j < l.length → legC l[j]! = 0) → legsC l = 0
 | [], _ => rfl
 | x :: t, ha => by
  have h0 : legC x = 0 := ha 0 (by simp)
  show (if legC x ≠ 0 then legC x else legsC t) = 0
  rw [if_neg (by rw [h0]; simp)]
  exact legs_ok (fun j hj => by
   have := ha (j + 1) (by simpa using hj)
   rw [getElem!_pos (x :: t) (j + 1) (by simpa using hj)] at this
   rw [getElem!_pos t j hj]
   exact this)
theorem legC_am {x : Lg} (h : legC x = 0) : -1000000000000 ≤ x.am ∧ x.am ≤ 1000000000000 := by
 unfold legC at h
 split at h
 ·cases h
 ·omega
structure EnM (e : En) : Prop where
 ke : e.ke.size ≤ maxLen
 tx : e.tx.size ≤ maxLen
 cu : ∀ j, j < e.lg.length → (e.lg[j]!).cu.size ≤ maxLen
 ln : e.lg.length ≤ 9223372036854775807
def Ck2R (w : World) (out : List Mn) (a : Option Addr) (c : Nat) (g : Nat) (s : Value) (W : World) : Prop := ∃ k : Nat, k + g = out.length ∧ s = .int .i64 k ∧ (∀ j, j < k → out[j]!.am = 0) ∧ RowIn mnenc W a out ∧ Below w.heap.size w W
def Ck1R (w : World) (e : En) (g : Nat) (s : Value) (W : World) : Prop := ∃ k : Nat, k + g = e.lg.length ∧ s = .int .i64 k ∧ (∀ j, j < k → legC e.lg[j]! = 0) ∧ Bk.Blk W w.heap.size #[.int .i64 (e).id, .int .i64 (e).bo, .int .i64 (e).va, .int .i64 (e).ki, .int .i64 (e).au, .int .i64 (e).pe, .string (e).ke, .string (e).tx, .slice (e).la (e).lg.length (e).lk, .int .u64 (e).ch] 39 ∧ Below w.heap.size w W
set_option maxHeartbeats 32000000 in
theorem echeck_any (e0 : En) (w : World) (h : EnM e0) (hl : RowIn lgenc w e0.la e0.lg) : Calls Tryz.prog 23 #[(.agg #[.int .i64 (e0).id, .int .i64 (e0).bo, .int .i64 (e0).va, .int .i64 (e0).ki, .int .i64 (e0).au, .int .i64 (e0).pe, .string (e0).ke, .string (e0).tx, .slice (e0).la (e0).lg.length (e0).lk, .int .u64 (e0).ch])] w fun e w' => e = .returned (.int .i64 (ckE e0)) ∧ Below w.heap.size w w' := by
 have cw : Below w.heap.size w (w.alloc (.cells #[.int .i64 (e0).id, .int .i64 (e0).bo, .int .i64 (e0).va, .int .i64 (e0).ki, .int .i64 (e0).au, .int .i64 (e0).pe, .string (e0).ke, .string (e0).tx, .slice (e0).la (e0).lg.length (e0).lk, .int .u64 (e0).ch] 39)) := Bk.be
 have ke : Bk.Blk (w.alloc (.cells #[.int .i64 (e0).id, .int .i64 (e0).bo, .int .i64 (e0).va, .int .i64 (e0).ki, .int .i64 (e0).au, .int .i64 (e0).pe, .string (e0).ke, .string (e0).tx, .slice (e0).la (e0).lg.length (e0).lk, .int .u64 (e0).ch] 39)) w.heap.size _ 39 := Bk.Blk.nw10
 have HL := Lib.hid (fun (W : World) (hW : Below w.heap.size w W) => hl.later hW)
 have HM := Lib.hid h
 have hnl := h.ln
 have hk0 := fun (W : World) => ekey_any e0.ke W h.ke
 have ht0 := fun (W : World) => etext_any e0.tx 32 64 W h.tx
 have hd0 := fun (n : Int) (W : World) => eday_any n W
 clear h hl
 obtain ⟨kb, hkb⟩ : ∃ b, b = keyB e0.ke := ⟨_, rfl⟩
 obtain ⟨tb, htb⟩ : ∃ b, b = txtB 32 64 e0.tx := ⟨_, rfl⟩
 obtain ⟨d1, hd1⟩ : ∃ b, b = dyB e0.bo := ⟨_, rfl⟩
 obtain ⟨d2, hd2⟩ : ∃ b, b = dyB e0.va := ⟨_, rfl⟩
 obtain ⟨d3, hd3⟩ : ∃ b, b = dyB e0.pe := ⟨_, rfl⟩
 rw [← hkb] at hk0
 rw [← htb] at ht0
 have hb1 := fun (W : World) => hd0 e0.bo W
 have hb2 := fun (W : World) => hd0 e0.va W
 have hb3 := fun (W : World) => hd0 e0.pe W
 rw [show decide (0 ≤ e0.bo ∧ e0.bo ≤ 73048) = d1 from hd1.symm] at hb1
 rw [show decide (0 ≤ e0.va ∧ e0.va ≤ 73048) = d2 from hd2.symm] at hb2
 rw [show decide (0 ≤ e0.pe ∧ e0.pe ≤ 73048) = d3 from hd3.symm] at hb3
 have HK := Lib.hid hk0
 have HT := Lib.hid ht0
 have HD1 := Lib.hid hb1
 have HD2 := Lib.hid hb2
 have HD3 := Lib.hid hb3
 have HKB := Lib.hid hkb.symm
 have HTB := Lib.hid htb.symm
 have HE1 := Lib.hid hd1.symm
 have HE2 := Lib.hid hd2.symm
 have HE3 := Lib.hid hd3.symm
 clear hk0 ht0 hd0 hb1 hb2 hb3 hkb htb hd1 hd2 hd3
 go_enter Tryz.func23, Tryz.ntmps23
 go_upto_region 1 with fail
 generalize (w.alloc (.cells _ 39)) = w1 at *
 have l1 := ke.c1
 have l2 := ke.c2
 have l3 := ke.c3
 have l4 := ke.c4
 have l5 := ke.c5
 have l6 := ke.c6
 have l7 := ke.c7
 have l8 := ke.c8
 cases kb
 ·have HF := Lib.hid (show ckE e0 = 4 from by unfold ckE; rw [HKB.out]; rfl)
  go_wp2_with (go_at_call 47; refine (HK.out _).mono ?_; rintro e w' ⟨rfl, rfl⟩)
  go_ret
  exact ⟨by rw [HF.out]; try rfl, cw⟩
 ·go_upto_region 3 with (go_at_call 47; refine (HK.out _).mono ?_; rintro e w' ⟨rfl, rfl⟩)
  cases tb
  ·have HF := Lib.hid (show ckE e0 = 1 from by unfold ckE; rw [HKB.out, HTB.out, HE1.out, HE2.out, HE3.out]; simp)
   go_wp2_with (go_at_call 48; refine (HT.out _).mono ?_; rintro e w' ⟨rfl, rfl⟩)
   go_ret
   exact ⟨by rw [HF.out]; try rfl, cw⟩
  ·cases d1
   ·have HF := Lib.hid (show ckE e0 = 1 from by unfold ckE; rw [HKB.out, HTB.out, HE1.out, HE2.out, HE3.out]; simp)
    go_wp2_with (first | (go_at_call 48; refine (HT.out _).mono ?_; rintro e w' ⟨rfl, rfl⟩) | (go_at_call 49; refine (HD1.out _).mono ?_; rintro e w' ⟨rfl, rfl⟩))
    go_ret
    exact ⟨by rw [HF.out]; try rfl, cw⟩
   ·cases d2
    ·have HF := Lib.hid (show ckE e0 = 1 from by unfold ckE; rw [HKB.out, HTB.out, HE1.out, HE2.out, HE3.out]; simp)
     go_wp2_with (first | (go_at_call 48; refine (HT.out _).mono ?_; rintro e w' ⟨rfl, rfl⟩) | (go_at_call 49; refine (HD1.out _).mono ?_; rintro e w' ⟨rfl, rfl⟩) | (go_at_call 49; refine (HD2.out _).mono ?_; rintro e w' ⟨rfl, rfl⟩))
     go_ret
     exact ⟨by rw [HF.out]; try rfl, cw⟩
    ·cases d3
     ·have HF := Lib.hid (show ckE e0 = 1 from by unfold ckE; rw [HKB.out, HTB.out, HE1.out, HE2.out, HE3.out]; simp)
      go_wp2_with (first | (go_at_call 48; refine (HT.out _).mono ?_; rintro e w' ⟨rfl, rfl⟩) | (go_at_call 49; refine (HD1.out _).mono ?_; rintro e w' ⟨rfl, rfl⟩) | (go_at_call 49; refine (HD2.out _).mono ?_; rintro e w' ⟨rfl, rfl⟩) | (go_at_call 49; refine (HD3.out _).mono ?_; rintro e w' ⟨rfl, rfl⟩))
      go_ret
      exact ⟨by rw [HF.out]; try rfl, cw⟩
     ·go_upto_region 5 with (first | (go_at_call 48; refine (HT.out _).mono ?_; rintro e w' ⟨rfl, rfl⟩) | (go_at_call 49; refine (HD1.out _).mono ?_; rintro e w' ⟨rfl, rfl⟩) | (go_at_call 49; refine (HD2.out _).mono ?_; rintro e w' ⟨rfl, rfl⟩) | (go_at_call 49; refine (HD3.out _).mono ?_; rintro e w' ⟨rfl, rfl⟩))
      by_cases n1 : e0.ki < 1
      ·have m1 : decide (e0.ki < 1) = true := decide_eq_true n1
       have HF := Lib.hid (show ckE e0 = 1 from by unfold ckE; rw [HKB.out, HTB.out, HE1.out, HE2.out, HE3.out]; simp; omega)
       go_wp2_with fail
       go_ret
       exact ⟨by rw [HF.out]; try rfl, cw⟩
      ·have m1 : decide (e0.ki < 1) = false := decide_eq_false n1
       by_cases n2 : 14 < e0.ki
       ·have m2 : decide (14 < e0.ki) = true := decide_eq_true n2
        have HF := Lib.hid (show ckE e0 = 1 from by unfold ckE; rw [HKB.out, HTB.out, HE1.out, HE2.out, HE3.out]; simp; omega)
        go_wp2_with fail
        go_ret
        exact ⟨by rw [HF.out]; try rfl, cw⟩
       ·have m2 : decide (14 < e0.ki) = false := decide_eq_false n2
        by_cases n3 : e0.au < 0
        ·have m3 : decide (e0.au < 0) = true := decide_eq_true n3
         have HF := Lib.hid (show ckE e0 = 1 from by unfold ckE; rw [HKB.out, HTB.out, HE1.out, HE2.out, HE3.out]; simp; omega)
         go_wp2_with fail
         go_ret
         exact ⟨by rw [HF.out]; try rfl, cw⟩
        ·have m3 : decide (e0.au < 0) = false := decide_eq_false n3
         by_cases n4 : 3 < e0.au
         ·have m4 : decide (3 < e0.au) = true := decide_eq_true n4
          have HF := Lib.hid (show ckE e0 = 1 from by unfold ckE; rw [HKB.out, HTB.out, HE1.out, HE2.out, HE3.out]; simp; omega)
          go_wp2_with fail
          go_ret
          exact ⟨by rw [HF.out]; try rfl, cw⟩
         ·have m4 : decide (3 < e0.au) = false := decide_eq_false n4
          by_cases n5 : e0.lg.length < 2
          ·have m5 : decide ((e0.lg.length : Int) < 2) = true := decide_eq_true (by omega)
           have HNU := Lib.hid (show (decide (1 ≤ e0.ki) && decide (e0.ki ≤ 14) && decide (0 ≤ e0.au) && decide (e0.au ≤ 3)) = true by simp; omega)
           have HF := Lib.hid (show ckE e0 = 5 from by unfold ckE; rw [HKB.out, HTB.out, HE1.out, HE2.out, HE3.out, HNU.out]; simp; omega)
           go_wp2_with fail
           go_ret
           exact ⟨by rw [HF.out]; try rfl, cw⟩
          ·have m5 : decide ((e0.lg.length : Int) < 2) = false := decide_eq_false (by omega)
           by_cases n6 : 12 < e0.lg.length
           ·have m6 : decide ((12 : Int) < (e0.lg.length : Int)) = true := decide_eq_true (by omega)
            have HNU := Lib.hid (show (decide (1 ≤ e0.ki) && decide (e0.ki ≤ 14) && decide (0 ≤ e0.au) && decide (e0.au ≤ 3)) = true by simp; omega)
            have HF := Lib.hid (show ckE e0 = 5 from by unfold ckE; rw [HKB.out, HTB.out, HE1.out, HE2.out, HE3.out, HNU.out]; simp; omega)
            go_wp2_with fail
            go_ret
            exact ⟨by rw [HF.out]; try rfl, cw⟩
           ·have m6 : decide ((12 : Int) < (e0.lg.length : Int)) = false := decide_eq_false (by omega)
            have HNU := Lib.hid (show (decide (1 ≤ e0.ki) && decide (e0.ki ≤ 14) && decide (0 ≤ e0.au) && decide (e0.au ≤ 3)) = true by simp; omega)
            have HCN := Lib.hid (show (decide (2 ≤ e0.lg.length) && decide (e0.lg.length ≤ 12)) = true by simp; omega)
            have HCK : Hid (∀ c : Int, c ≠ 0 → legsC e0.lg = c → ckE e0 = c) := Lib.hid (fun c hc h => by unfold ckE; rw [HKB.out, HTB.out, HE1.out, HE2.out, HE3.out, HNU.out, HCN.out, h]; simp [hc])
            go_upto_region 10 with fail
            have HLN := Lib.hid (show e0.lg.length ≤ 12 by omega)
            clear l1 l2 l3 l4 l5 l6 l7 l8 m1 m2 m3 m4 m5 m6 n1 n2 n3 n4 n5 n6
            go_loopg [68] e0.lg.length (Ck1R w e0)
            case atStart => exact ⟨0, by omega, rfl, fun j hj => absurd hj (Nat.not_lt_zero _), ke, cw⟩
            case round =>
             clear ke cw
             obtain ⟨k, hk, rfl, hall, ke, hbr⟩ := hrel
             have HA := Lib.hid hall
             clear hall
             by_cases hlt : k < e0.lg.length
             ·obtain ⟨b, off, ha, hc⟩ := rowat lgenc_len (HL.out _ hbr) (by omega)
              have hm := hc k hlt
              clear hc
              have hcs := HM.out.cu k hlt
              obtain ⟨x, hxx⟩ : ∃ x, x = e0.lg[k]! := ⟨_, rfl⟩
              rw [← hxx] at hm hcs
              have HX := Lib.hid hxx
              have HCB := Lib.hid (fun (W : World) => ecode_any x.cu W hcs)
              obtain ⟨cb, hcb⟩ : ∃ b, b = codeB x.cu := ⟨_, rfl⟩
              rw [← hcb] at HCB
              have HCE := Lib.hid hcb.symm
              clear hxx hcs hcb
              rw [ha]
              have HAA := Lib.hid ha
              clear ha
              have cx : Below wr.heap.size wr (wr.alloc (.cells #[.int .i64 (x).ac, .int .i64 (x).am, .string (x).cu] 50)) := Bk.be
              have kx : Bk.Blk (wr.alloc (.cells #[.int .i64 (x).ac, .int .i64 (x).am, .string (x).cu] 50)) wr.heap.size _ 50 := Bk.Blk.nw10
              go_upto_region 12 with ((refine wpList_load_mid rfl 50 _ rfl _ (off + k * 3) (by first | rfl | simp) ([.int .i64 (x).ac, .int .i64 (x).am, .string (x).cu]) _ (hm) Tryz.underlying50 rfl (by kernel_rfl) ?_))
              clear hm
              have c2 := bl2 cx hbr
              replace ke := ke.later cx
              generalize wr.alloc (.cells _ 50) = w2 at *
              generalize wr.heap.size = g2 at *
              have x0 := kx.c0
              have x1 := kx.c1
              have x2 := kx.c2
              clear cx hbr
              by_cases i1 : x.ac < 1
              ·have g1 : decide (x.ac < 1) = true := decide_eq_true i1
               have HF := Lib.hid (show ckE e0 = 1 from by
                have hx : legC x = 1 := by unfold legC; rw [if_pos (by omega)]
                have hc := legs_at hlt HA.out (by rw [← HX.out, hx]; decide)
                rw [← HX.out, hx] at hc
                exact HCK.out 1 (by decide) hc)
               go_wp2_with fail
               go_ret
               exact ⟨by rw [HF.out]; try rfl, c2⟩
              ·have g1 : decide (x.ac < 1) = false := decide_eq_false i1
               by_cases i2 : x.am = 0
               ·have g2' : (x.am == 0) = true := by rw [i2]; rfl
                have HI2 := Lib.hid i2
                clear i2
                have HF := Lib.hid (show ckE e0 = 1 from by
                 have hx : legC x = 1 := by unfold legC; rw [if_pos (by have := HI2.out; omega)]
                 have hc := legs_at hlt HA.out (by rw [← HX.out, hx]; decide)
                 rw [← HX.out, hx] at hc
                 exact HCK.out 1 (by decide) hc)
                go_wp2_with fail
                go_ret
                exact ⟨by rw [HF.out]; try rfl, c2⟩
               ·have g2' : (x.am == 0) = false := beq_eq_false_iff_ne.2 i2
                by_cases i3 : x.am < -1000000000000
                ·have g3 : decide (x.am < -1000000000000) = true := decide_eq_true i3
                 have HF := Lib.hid (show ckE e0 = 1 from by
                  have hx : legC x = 1 := by unfold legC; rw [if_pos (by omega)]
                  have hc := legs_at hlt HA.out (by rw [← HX.out, hx]; decide)
                  rw [← HX.out, hx] at hc
                  exact HCK.out 1 (by decide) hc)
                 go_wp2_with fail
                 go_ret
                 exact ⟨by rw [HF.out]; try rfl, c2⟩
                ·have g3 : decide (x.am < -1000000000000) = false := decide_eq_false i3
                 by_cases i4 : 1000000000000 < x.am
                 ·have g4 : decide (1000000000000 < x.am) = true := decide_eq_true i4
                  have HF := Lib.hid (show ckE e0 = 1 from by
                   have hx : legC x = 1 := by unfold legC; rw [if_pos (by omega)]
                   have hc := legs_at hlt HA.out (by rw [← HX.out, hx]; decide)
                   rw [← HX.out, hx] at hc
                   exact HCK.out 1 (by decide) hc)
                  go_wp2_with fail
                  go_ret
                  exact ⟨by rw [HF.out]; try rfl, c2⟩
                 ·have g4 : decide (1000000000000 < x.am) = false := decide_eq_false i4
                  cases cb
                  ·have HF := Lib.hid (show ckE e0 = 14 from by
                    have hx : legC x = 14 := by unfold legC; rw [if_neg (by omega), HCE.out]; rfl
                    have hc := legs_at hlt HA.out (by rw [← HX.out, hx]; decide)
                    rw [← HX.out, hx] at hc
                    exact HCK.out 14 (by decide) hc)
                   go_wp2_with (go_at_call 50; refine (HCB.out _).mono ?_; rintro e w' ⟨rfl, rfl⟩)
                   go_ret
                   exact ⟨by rw [HF.out]; try rfl, c2⟩
                  ·have HCZ := Lib.hid (show legC x = 0 by unfold legC; rw [if_neg (by omega), HCE.out]; rfl)
                   go_wp2_with (go_at_call 50; refine (HCB.out _).mono ?_; rintro e w' ⟨rfl, rfl⟩)
                   rw [← HAA.out]
                   go_roundg (gk - 1)
                   case measure => omega
                   case rel => exact ⟨k + 1, by omega, by go_num, fun j hj => by
                    by_cases e : j = k
                    ·subst e; rw [← HX.out]; exact HCZ.out
                    ·exact HA.out j (by omega), ke, c2⟩
             ·have HLZ := Lib.hid (legs_ok (l := e0.lg) (fun j hj => HA.out j (by omega)))
              have HCB : Hid (balB e0.lg = false → ckE e0 = 15) := Lib.hid (fun hb => by unfold ckE; rw [HKB.out, HTB.out, HE1.out, HE2.out, HE3.out, HNU.out, HCN.out, HLZ.out, hb]; rfl)
              have HCT : Hid (balB e0.lg = true → ckE e0 = 0) := Lib.hid (fun hb => by unfold ckE; rw [HKB.out, HTB.out, HE1.out, HE2.out, HE3.out, HNU.out, HCN.out, HLZ.out, hb]; rfl)
              have l8 := ke.c8
              go_wp2_with fail
              refine (sums_any e0.la e0.lk e0.lg _ (HL.out _ hbr) HLN.out (fun j hj => legC_am (HA.out j (by omega)))).mono ?_
              rintro e w3 ⟨out, a3, c3, rfl, hgv, hso, hlo, hb⟩
              have c4 := bl2 hb hbr
              have HSO := Lib.hid hso
              obtain ⟨a1, c1, he1, hrow, _⟩ := GV.row hgv
              obtain ⟨ha1, _, hc1⟩ := Value.slice.inj he1
              subst ha1 hc1
              clear hb hbr ke l8 hgv he1 hso
              go_wp2_with fail
              go_loopg [99] out.length (Ck2R w out a3 c3)
              case atStart => exact ⟨0, by omega, rfl, fun j hj => absurd hj (Nat.not_lt_zero _), hrow, c4⟩
              case round =>
               clear hrow c4
               rename World => wr2
               obtain ⟨k2, hk2, rfl, hz, ho, hbr2⟩ := hrel
               have HZ := Lib.hid hz
               clear hz
               by_cases hlt2 : k2 < out.length
               ·obtain ⟨b2, off2, ha2, hc2⟩ := rowat mnenc_len ho (by omega)
                have hm2 := hc2 k2 hlt2
                clear hc2
                obtain ⟨m, hmm⟩ : ∃ m, m = out[k2]! := ⟨_, rfl⟩
                rw [← hmm] at hm2
                have HMM := Lib.hid hmm
                clear hmm
                rw [ha2]
                have HA2 := Lib.hid ha2
                clear ha2
                have cx : Below wr2.heap.size wr2 (wr2.alloc (.cells #[.string m.cu, .int .i64 m.am] 112)) := Bk.be
                have kx : Bk.Blk (wr2.alloc (.cells #[.string m.cu, .int .i64 m.am] 112)) wr2.heap.size #[.string m.cu, .int .i64 m.am] 112 := Bk.Blk.nw10
                go_upto_region 20 with ((refine wpList_load_mid rfl 112 _ rfl _ (off2 + k2 * 2) (by first | rfl | simp) ([.string m.cu, .int .i64 m.am]) _ (hm2) Tryz.underlying112 rfl (by kernel_rfl) ?_))
                clear hm2
                have c5 := bl2 cx hbr2
                replace ho := ho.later cx
                generalize wr2.alloc (.cells #[.string m.cu, .int .i64 m.am] 112) = w5 at *
                generalize wr2.heap.size = g5 at *
                have x1 := kx.c1
                clear cx hbr2
                by_cases i5 : m.am = 0
                ·have g5' : (m.am != 0) = false := by rw [i5]; rfl
                 have HI5 := Lib.hid i5
                 clear i5
                 go_wp2_with fail
                 rw [← HA2.out]
                 go_roundg (gk - 1)
                 case measure => omega
                 case rel => exact ⟨k2 + 1, by omega, by go_num, fun j hj => by
                  by_cases e : j = k2
                  ·subst e; rw [← HMM.out]; exact HI5.out
                  ·exact HZ.out j (by omega), ho, c5⟩
                ·have g5' : (m.am != 0) = true := bne_iff_ne.2 i5
                 have HF := Lib.hid (show ckE e0 = 15 from HCB.out (by
                  rw [HSO.out.bal, List.all_eq_false]
                  refine ⟨m, by rw [HMM.out, getElem!_pos out k2 hlt2]; exact List.getElem_mem hlt2, by simpa using i5⟩))
                 clear i5
                 go_wp2_with fail
                 go_ret
                 exact ⟨by rw [HF.out]; try rfl, c5⟩
               ·have HF := Lib.hid (show ckE e0 = 0 from HCT.out (by
                 rw [HSO.out.bal, List.all_eq_true]
                 intro m hm
                 obtain ⟨j, hj, rfl⟩ := List.mem_iff_getElem.1 hm
                 have := HZ.out j (by omega)
                 rw [getElem!_pos out j hj] at this
                 simpa using this))
                go_wp2_with fail
                go_ret
                exact ⟨by rw [HF.out]; try rfl, hbr2⟩
end Go.Proofs.YtjhpiclnpmdjnaaGreatDoor.Bm
namespace Go.Proofs.YtjhpiclnpmdjnaaGreatDoor.Bm
open Go Go.RowKit
open Go.Proofs.YtjhpiclnpmdjnaaGreatDoor
open Go.Proofs.YtjhpiclnpmdjnaaGreatDoor.Ln (flat flat_len flat_get flat_mem RowIn OwnR Idx bl2 results2_cell Blk_setRow_same Blk_setRow_ne Below_setRow)
open Go.Proofs.YtjhpiclnpmdjnaaGreatDoor.Kl (codeB)
set_option linter.unusedSimpArgs false
set_option linter.unusedVariables false
set_option maxRecDepth 100000
structure EnW (e : En) : Prop where
 n0 : wid e.id
 n1 : wid e.bo
 n2 : wid e.va
 n3 : wid e.ki
 n4 : wid e.au
 n5 : wid e.pe
 lg : ∀ j, j < e.lg.length → wid e.lg[j]!.ac ∧ wid e.lg[j]!.am
theorem legs_each : ∀ {l : List Lg}, legsC l = 0 → ∀ j, j < l.length → legC l[j]! = 0
 | [], _, j, h => absurd h (Nat.not_lt_zero _)
 | x :: t, h, j, hj => by
  have h' : (if legC x ≠ 0 then legC x else legsC t) = 0 := h
  split at h'
  ·rename_i hx
   exact absurd h' hx
  ·rename_i hx
   cases j with
   | zero => exact Classical.byContradiction hx
   | succ j =>
    have hj' : j < t.length := by simpa using hj
    rw [getElem!_pos (x :: t) (j + 1) hj]
    have := legs_each h' j hj'
    rw [getElem!_pos t j hj'] at this
    exact this
theorem ckE_ok {e : En} (h : ckE e = 0) : keyB e.ke = true ∧ txtB 32 64 e.tx = true ∧ 2 ≤ e.lg.length ∧ e.lg.length ≤ 12 ∧ legsC e.lg = 0 ∧ 0 ≤ e.bo := by
 unfold ckE at h
 split at h
 ·cases h
 ·rename_i h1
  split at h
  ·cases h
  ·rename_i h2
   split at h
   ·cases h
   ·split at h
    ·cases h
    ·rename_i h4
     split at h
     ·rename_i h5
      exact absurd h h5
     ·rename_i h5
      have h2' : (txtB 32 64 e.tx && dyB e.bo && dyB e.va && dyB e.pe) = true := by
       cases hh : (txtB 32 64 e.tx && dyB e.bo && dyB e.va && dyB e.pe)
       ·exact absurd hh h2
       ·rfl
      have h4' : (decide (2 ≤ e.lg.length) && decide (e.lg.length ≤ 12)) = true := by
       cases hh : (decide (2 ≤ e.lg.length) && decide (e.lg.length ≤ 12))
       ·exact absurd hh h4
       ·rfl
      rw [Bool.and_eq_true, Bool.and_eq_true, Bool.and_eq_true] at h2'
      rw [Bool.and_eq_true] at h4'
      have hb : 0 ≤ e.bo ∧ e.bo ≤ 73048 := of_decide_eq_true h2'.1.1.2
      exact ⟨by simpa using h1, h2'.1.1.1, of_decide_eq_true h4'.1, of_decide_eq_true h4'.2, Classical.byContradiction h5, hb.1⟩
theorem EnS.of {e : En} (h : EnW e) (hc : ckE e = 0) : EnS e := by
 obtain ⟨h1, h2, h3, h4, h5, _⟩ := ckE_ok hc
 refine ⟨h.n0, h.n1, h.n2, h.n3, h.n4, h.n5, by have := size_key h1; omega, by have := size_txt h2; omega, ⟨by omega, h4⟩, fun j hj => ⟨(h.lg j hj).1, (h.lg j hj).2, ?_⟩⟩
 have hl := legs_each h5 j hj
 unfold legC at hl
 split at hl
 ·cases hl
 ·split at hl
  ·rename_i hcb
   have := size_code hcb
   omega
  ·cases hl
theorem en_info : ∃ i0, Tryz.prog.info? 39 = some i0 ∧ i0.zero = some (.agg #[.int .i64 0, .int .i64 0, .int .i64 0, .int .i64 0, .int .i64 0, .int .i64 0, .string { data := #[] }, .string { data := #[] }, .slice none 0 0, .int .u64 0]) ∧ i0.size = 10 ∧ i0.bytes = 112 := by
 have h : (Tryz.prog.info? 39).map (fun i => (i.zero, i.size, i.bytes)) = some (some (.agg #[.int .i64 0, .int .i64 0, .int .i64 0, .int .i64 0, .int .i64 0, .int .i64 0, .string { data := #[] }, .string { data := #[] }, .slice none 0 0, .int .u64 0]), 10, 112) := by kernel_rfl
 cases hq : Tryz.prog.info? 39 with
 | none => rw [hq] at h; cases h
 | some i0 =>
  rw [hq] at h
  have h' := Option.some.inj h
  exact ⟨i0, rfl, congrArg (·.1) h', congrArg (·.2.1) h', congrArg (·.2.2) h'⟩
theorem mk_en (n : Nat) (hn : n ≤ 100000) (W : World) : (Instr.makeSlice 29 (.int .i64 ((n : Int) + 1)) (.int .i64 ((n : Int) + 1))).run Tryz.prog W = .ok (.slice (some ⟨W.heap.size, 0, none⟩) (n + 1) (n + 1)) (W.alloc (.cells (madeCells #[.int .i64 0, .int .i64 0, .int .i64 0, .int .i64 0, .int .i64 0, .int .i64 0, .string { data := #[] }, .string { data := #[] }, .slice none 0 0, .int .u64 0] ((n + 1) * 10)) 39)) := by
 obtain ⟨i0, h1, h2, h3, h4⟩ := en_info
 have h := run_make W 29 39 i0 _ Tryz.underlying29 h1 h2 .i64 .i64 ((n : Int) + 1) ((n : Int) + 1) (by omega) (Int.le_refl _) (by rw [h4]; omega) (by omega)
 have e : ((n : Int) + 1).toNat = n + 1 := by omega
 rw [e, h3] at h
 exact h
theorem cp_en (a : Option Addr) (cap : Nat) (js : List En) (W : World) (g : Nat) (cur : Array Value) (h : RowIn enenc W a js) (hg : Bk.Blk W g cur 39) (hc : cur.size = (js.length + 1) * 10) (ty : TypeId) :
  (Builtin.copy_ #[29, 29] ty #[.slice (some ⟨g, 0, none⟩) (js.length + 1) (js.length + 1), .slice a js.length cap]).run Tryz.prog W = .ok (goInt (js.length : Nat)) (W.setRow g (flat enenc js ++ cur.toList.drop (js.length * 10)).toArray) := by
 have hsz : (Tryz.prog.info? 39).map (·.size) = some 10 := by kernel_rfl
 have hl : (flat enenc js).length = js.length * 10 := flat_len enenc_len _
 rcases Nat.eq_zero_or_pos js.length with h0 | h0
 ·obtain rfl : js = [] := List.eq_nil_of_length_eq_zero h0
  have e : W.setRow g (flat enenc [] ++ cur.toList.drop (([] : List En).length * 10)).toArray = W := by
   have : (flat enenc [] ++ cur.toList.drop (([] : List En).length * 10)).toArray = cur := by simp [flat]
   rw [this]
   exact setRow_self W g cur 39 (0, 0) hg
  rw [e]
  cases hq : Tryz.prog.info? 39 with
  | none => rw [hq] at hsz; cases hsz
  | some i =>
   cases a with
   | none => simp [Builtin.copy_, run_underlying Tryz.underlying29, Builtin.lenOf, Builtin.firstCells, sizeOf, typeInfo, hq, storeCells]
   | some ad =>
    have h2 := run_loadCells_list (P := Tryz.prog) W ad [] (fun j v hj => by simp at hj)
    simp at h2
    simp [Builtin.copy_, run_underlying Tryz.underlying29, Builtin.lenOf, Builtin.firstCells, sizeOf, typeInfo, hq, storeCells, h2]
 ·obtain ⟨b, off, rfl, hcl⟩ := h h0
  have := run_copy_at W 29 29 ty 39 g 0 ⟨b, off, none⟩ (js.length + 1) (js.length + 1) js.length cap js.length 10 cur 39 (flat enenc js) Tryz.underlying29 hsz hg (by show min js.length (js.length + 1) = js.length; omega) hl (fun j v hj => by rw [Addr.add_lit]; exact hcl j v hj) (by rw [hl, hc]; omega) (flat_mem (fun x u hu => enenc_one x u hu) _)
  rw [this, hl]
  simp
theorem st_at {P : Program} {ops : Array Oper} {rest : List Oper} {o : Oper} {a : Act} {w : World} {Q : Exit → Act → World → Prop} (hgd : o.guard = none) (ty : TypeId) (x y : Operand) (ho : o.op = .store ty x y)
  (g n : Nat) (cells : Array Value) (hx : a.eval x = .pointer (some ⟨g, n, none⟩)) (hy : a.eval y = .agg cells) (t : TypeId) (old : Array Value) (hg : w.heap[g]? = some (.cells old t (0, 0)))
  (hi : (P.info? ty).map (·.size) = some cells.size) (hfit : n + cells.size ≤ old.size) (h1 : cells.all (·.oneCell') = true)
  (h : wpList P ops Q rest (a.put o.dst undef) (w.setRow g (old.toList.take n ++ cells.toList ++ old.toList.drop (n + cells.size)).toArray)) : wpList P ops Q (o :: rest) a w := by
 refine wpList_plain hgd fun K hK => ?_
 have hst := run_storeCells_at (P := P) g n t cells.toList 0 old w hg (by simpa using hfit) (fun v hv => (Array.all_eq_true_iff_forall_mem.1 h1) v (by simpa using hv))
 simp only [Nat.add_zero, Array.length_toList] at hst
 have hrun : (storeVar ty ⟨g, n, none⟩ (.agg cells)).run P w = .ok () (w.setRow g (old.toList.take n ++ cells.toList ++ old.toList.drop (n + cells.size)).toArray) := by
  cases hq : P.info? ty with
  | none => simp [hq] at hi
  | some i =>
   have hs : cells.size = i.size := by simp [hq] at hi; omega
   simp [storeVar, sizeOf, typeInfo, hq, Value.cells, hst, ← hs]
 unfold Oper.wp execOp
 simp only [ho, hx, hy, Instr.storeAt, Instr.sureAddr, Sem.run_bind, Sem.run_pure, Result.andThen_ok, hrun]
 exact hK _ _ h
def jpE (js : List En) (e : En) : Int := if ckE e ≠ 0 then ckE e else jE js e
def JpP (w : World) (js : List En) (e0 : En) (E : Int) (e : Ending) (w' : World) : Prop := ∃ v, e = .returned (.tuple #[v, .int .i64 E]) ∧ (E = 0 → ∃ g la lk r, v = .slice (some ⟨g, 0, none⟩) (js.length + 1) (js.length + 1) ∧ w.heap.size ≤ g ∧ RowIn enenc w' (some ⟨g, 0, none⟩) (js ++ [e0.sld ((js.length : Int) + 1) la lk r])) ∧ (E ≠ 0 → v = .slice none 0 0) ∧ Below w.heap.size w w'
theorem jpP_no {w w' : World} {js : List En} {e0 : En} {E : Int} (h : E ≠ 0) (hb : Below w.heap.size w w') : JpP w js e0 E (.returned (.tuple #[.slice none 0 0, .int .i64 E])) w' := ⟨_, rfl, fun h0 => absurd h0 h, fun _ => rfl, hb⟩
theorem rowb_of {W : World} {g : Nat} {t : TypeId} {xs : List En} (h : Bk.Blk W g (flat enenc xs).toArray t) : RowIn enenc W (some ⟨g, 0, none⟩) xs := fun _ => ⟨g, 0, rfl, fun j u hj => by
 rw [Nat.zero_add, Bk.Blk.cell h]
 simpa using hj⟩
set_option maxHeartbeats 32000000 in
theorem jpost_any (a : Option Addr) (cap : Nat) (js : List En) (e0 : En) (w : World) (hm : EnM e0) (hw : EnW e0) (hn : js.length ≤ 5000) (h : RowIn enenc w a js) (hl : RowIn lgenc w e0.la e0.lg) (ht : Tab w) :
  Calls Tryz.prog 27 #[.slice a js.length cap, (.agg #[.int .i64 (e0).id, .int .i64 (e0).bo, .int .i64 (e0).va, .int .i64 (e0).ki, .int .i64 (e0).au, .int .i64 (e0).pe, .string (e0).ke, .string (e0).tx, .slice (e0).la (e0).lg.length (e0).lk, .int .u64 (e0).ch])] w (JpP w js e0 (jpE js e0)) := by
 have cw : Below w.heap.size w (w.alloc (.cells #[.int .i64 (e0).id, .int .i64 (e0).bo, .int .i64 (e0).va, .int .i64 (e0).ki, .int .i64 (e0).au, .int .i64 (e0).pe, .string (e0).ke, .string (e0).tx, .slice (e0).la (e0).lg.length (e0).lk, .int .u64 (e0).ch] 39)) := Bk.be
 have ke : Bk.Blk (w.alloc (.cells #[.int .i64 (e0).id, .int .i64 (e0).bo, .int .i64 (e0).va, .int .i64 (e0).ki, .int .i64 (e0).au, .int .i64 (e0).pe, .string (e0).ke, .string (e0).tx, .slice (e0).la (e0).lg.length (e0).lk, .int .u64 (e0).ch] 39)) w.heap.size _ 39 := Bk.Blk.nw10
 have HL := Lib.hid (fun (W : World) (hW : Below w.heap.size w W) => hl.later hW)
 have HJ := Lib.hid (fun (W : World) (hW : Below w.heap.size w W) => h.later hW)
 have HT := Lib.hid (fun (W : World) (hW : Below w.heap.size w W) => ht.of hW)
 have HM := Lib.hid hm
 have HW := Lib.hid hw
 have HS := Lib.hid (fun (hc : ckE e0 = 0) => EnS.of hw hc)
 clear hm hw h hl ht
 obtain ⟨ck, hck⟩ : ∃ ck, ck = ckE e0 := ⟨_, rfl⟩
 have HCK := Lib.hid (fun (W : World) (hW : Below w.heap.size w W) => (hck.symm ▸ echeck_any e0 W HM.out (HL.out W hW) : Calls Tryz.prog 23 #[(.agg #[.int .i64 (e0).id, .int .i64 (e0).bo, .int .i64 (e0).va, .int .i64 (e0).ki, .int .i64 (e0).au, .int .i64 (e0).pe, .string (e0).ke, .string (e0).tx, .slice (e0).la (e0).lg.length (e0).lk, .int .u64 (e0).ch])] W fun e w' => e = .returned (.int .i64 ck) ∧ Below W.heap.size W w'))
 have HEQ := Lib.hid hck
 clear hck
 go_enter Tryz.func27, Tryz.ntmps27
 go_upto_region 1 with fail
 generalize (w.alloc (.cells _ 39)) = w1 at *
 go_wp2_with ((refine wpList_load_row rfl 39 _ rfl _ rfl _ _ _ _ (ke) Tryz.underlying39 rfl (by kernel_rfl) ?_))
 refine (HCK.out _ cw).mono ?_
 rintro e w2 ⟨rfl, hb⟩
 have c2 := bl2 hb cw
 replace ke := ke.later hb
 clear hb cw HCK
 by_cases hc0 : ck = 0
 ·have g1 : (ck != 0) = false := by rw [hc0]; rfl
  have HSS := Lib.hid (HS.out (HEQ.out.symm.trans hc0))
  have HJP : Hid (jpE js e0 = jE js e0) := Lib.hid (by unfold jpE; rw [← HEQ.out, if_neg (fun h => h hc0)])
  clear hc0 HS
  have l6 := ke.c6
  go_wp2_with fail
  refine (jfind_any a cap js e0.ke w2 (by omega) (HJ.out _ c2)).mono ?_
  rintro e w3 ⟨rfl, hb⟩
  have c3 := bl2 hb c2
  replace ke := ke.later hb
  obtain ⟨kn, hkn⟩ : ∃ b, b = fok (fun d : En => d.ke.toList == e0.ke.toList) js := ⟨_, rfl⟩
  rw [← hkn]
  have HKN : Hid (kn = knownB js e0.ke) := Lib.hid hkn
  generalize fst' (fun d : En => d.ke.toList == e0.ke.toList) js = zz at *
  clear hb c2 l6 hkn
  have z3 := Below.size c3
  have hk3 := ke.lt
  go_upto_region 5 with ((refine wpList_store_row rfl 39 _ _ rfl _ _ rfl rfl _ _ (Bk.Blk.nw10) (by kernel_rfl) rfl (by simp [Value.oneCell']) ?_))
  have c4 : Below w.heap.size w ((w3.alloc (.cells #[.int .i64 0, .int .i64 0, .int .i64 0, .int .i64 0, .int .i64 0, .int .i64 0, .string { data := #[] }, .string { data := #[] }, .slice none 0 0, .int .u64 0] 39)).setRow w3.heap.size #[.int .i64 (zz).id, .int .i64 (zz).bo, .int .i64 (zz).va, .int .i64 (zz).ki, .int .i64 (zz).au, .int .i64 (zz).pe, .string (zz).ke, .string (zz).tx, .slice (zz).la (zz).lg.length (zz).lk, .int .u64 (zz).ch]) := Below_setRow (c3.alloc z3 _) z3 _
  have ke4 : Bk.Blk ((w3.alloc (.cells #[.int .i64 0, .int .i64 0, .int .i64 0, .int .i64 0, .int .i64 0, .int .i64 0, .string { data := #[] }, .string { data := #[] }, .slice none 0 0, .int .u64 0] 39)).setRow w3.heap.size #[.int .i64 (zz).id, .int .i64 (zz).bo, .int .i64 (zz).va, .int .i64 (zz).ki, .int .i64 (zz).au, .int .i64 (zz).pe, .string (zz).ke, .string (zz).tx, .slice (zz).la (zz).lg.length (zz).lk, .int .u64 (zz).ch]) w.heap.size _ 39 := Blk_setRow_ne (Bk.Blk.alloc ke) (by omega)
  (try simp only [Act.put])
  generalize ((w3.alloc (.cells _ 39)).setRow w3.heap.size _) = w4 at *
  clear ke c3 z3 hk3
  cases kn
  ·go_wp2_with fail
   refine (last_any a cap js w4 (by omega) (HJ.out _ c4)).mono ?_
   rintro e w5 ⟨⟨ch, rfl⟩, hb⟩
   have c5 := bl2 hb c4
   replace ke4 := ke4.later hb
   clear hb c4
   obtain ⟨ld, hld⟩ : ∃ d, d = lastD js := ⟨_, rfl⟩
   rw [← hld]
   have HLD := Lib.hid hld
   clear hld
   have l1 := ke4.c1
   by_cases hpos : 0 < js.length
   ·have g2 : decide ((0 : Int) < (js.length : Int)) = true := decide_eq_true (by omega)
    by_cases hday : e0.bo < ld
    ·have g3 : decide (e0.bo < ld) = true := decide_eq_true hday
     have HE := Lib.hid (show jpE js e0 = 10 from by rw [HJP.out]; unfold jE; rw [← HKN.out, if_neg (by decide), if_pos ⟨hpos, by rw [← HLD.out]; exact hday⟩])
     go_wp2_with fail
     go_ret2
     rw [HE.out]
     exact jpP_no (by decide) c5
    ·have g3 : decide (e0.bo < ld) = false := decide_eq_false hday
     by_cases h4k : 4096 ≤ js.length
     ·have g4 : decide ((4096 : Int) ≤ (js.length : Int)) = true := decide_eq_true (by omega)
      have HE := Lib.hid (show jpE js e0 = 5 from by rw [HJP.out]; unfold jE; rw [← HKN.out, if_neg (by decide), if_neg (fun hh => hday (by rw [HLD.out]; exact hh.2)), if_pos h4k])
      go_wp2_with fail
      go_ret2
      rw [HE.out]
      exact jpP_no (by decide) c5
     ·have g4 : decide ((4096 : Int) ≤ (js.length : Int)) = false := decide_eq_false (by omega)
      have HE0 := Lib.hid (show jpE js e0 = 0 from by rw [HJP.out]; unfold jE; rw [← HKN.out, if_neg (by decide), if_neg (fun hh => hday (by rw [HLD.out]; exact hh.2)), if_neg h4k])
      have hmk := mk_en js.length (by omega)
      go_upto_region 13 with fail
      clear hmk l1
      have z5 := Below.size c5
      obtain ⟨cur, hcur⟩ : ∃ c, c = madeCells #[.int .i64 0, .int .i64 0, .int .i64 0, .int .i64 0, .int .i64 0, .int .i64 0, .string { data := #[] }, .string { data := #[] }, .slice none 0 0, .int .u64 0] ((js.length + 1) * 10) := ⟨_, rfl⟩
      rw [← hcur]
      have hcs : cur.size = (js.length + 1) * 10 := by rw [hcur, size_madeCells]
      have c6 : Below w.heap.size w (w5.alloc (.cells cur 39)) := c5.alloc z5 _
      have ke6 : Bk.Blk (w5.alloc (.cells cur 39)) w.heap.size #[.int .i64 (e0).id, .int .i64 (e0).bo, .int .i64 (e0).va, .int .i64 (e0).ki, .int .i64 (e0).au, .int .i64 (e0).pe, .string (e0).ke, .string (e0).tx, .slice (e0).la (e0).lg.length (e0).lk, .int .u64 (e0).ch] 39 := Bk.Blk.alloc ke4
      have ko6 : Bk.Blk (w5.alloc (.cells cur 39)) w5.heap.size cur 39 := Bk.Blk.nw10
      have hkl := ke4.lt
      clear hcur c5 ke4
      generalize w5.alloc (.cells cur 39) = w6 at *
      generalize w5.heap.size = g6 at *
      have hcp := cp_en a cap js w6 g6 cur (HJ.out _ c6) ko6 hcs
      go_upto_region 14 with fail
      clear hcp
      have hfl : (flat enenc js).length = js.length * 10 := flat_len enenc_len _
      have c7 : Below w.heap.size w (w6.setRow g6 (flat enenc js ++ cur.toList.drop (js.length * 10)).toArray) := Below_setRow c6 z5 _
      have ke7 : Bk.Blk (w6.setRow g6 (flat enenc js ++ cur.toList.drop (js.length * 10)).toArray) w.heap.size _ 39 := Blk_setRow_ne ke6 (by omega)
      have ko7 : Bk.Blk (w6.setRow g6 (flat enenc js ++ cur.toList.drop (js.length * 10)).toArray) g6 (flat enenc js ++ cur.toList.drop (js.length * 10)).toArray 39 := Blk_setRow_same ko6
      obtain ⟨row, hrow⟩ : ∃ r, r = flat enenc js ++ cur.toList.drop (js.length * 10) := ⟨_, rfl⟩
      rw [← hrow] at c7 ke7 ko7 ⊢
      have hrl : row.length = (js.length + 1) * 10 := by rw [hrow, List.length_append, hfl, List.length_drop, (Array.length_toList : cur.toList.length = cur.size), hcs]; omega
      have hrt : row.take (js.length * 10) = flat enenc js := by rw [hrow, ← hfl, List.take_append_of_le_length (Nat.le_refl _), List.take_length]
      have HROW := Lib.hid (And.intro hrl hrt)
      have HFIT : Hid (js.length * 10 + 10 ≤ row.toArray.size) := Lib.hid (by rw [List.size_toArray, hrl]; omega)
      clear hrow hrl hrt hfl hcs c6 ke6 ko6
      generalize w6.setRow g6 row.toArray = w7 at *
      go_wp2_with ((refine wpList_load_row rfl 39 _ rfl _ rfl _ _ _ _ (ke7) Tryz.underlying39 rfl (by kernel_rfl) ?_))
      refine (sealed_any e0 js.length ch w7 HSS.out (by omega) (HL.out _ c7) (HT.out _ c7)).mono ?_
      rintro e w8 ⟨la, lk, r, rfl, hrow, hnew, hb⟩
      have c8 := bl2 hb c7
      replace ko7 := ko7.later hb
      have hlt := ko7.lt
      clear hb c7 ke7 hrow hnew
      go_wp2_with (refine st_at rfl 39 _ _ rfl g6 (js.length * 10) _ rfl rfl _ _ ko7 (by kernel_rfl) HFIT.out (by simp [Value.oneCell']) ?_)
      go_ret2
      rw [HE0.out]
      refine ⟨_, rfl, fun _ => ⟨g6, la, lk, r, rfl, z5, ?_⟩, fun hh => absurd rfl hh, Below_setRow c8 z5 _⟩
      have hd : row.drop (js.length * 10 + 10) = [] := List.drop_eq_nil_of_le (by rw [HROW.out.1]; omega)
      refine rowb_of (t := 39) (Bk.Blk.conv (Blk_setRow_same ko7) ?_)
      rw [HROW.out.2, hd, flat_app]
      simp [flat, enenc]
   ·have g2 : decide ((0 : Int) < (js.length : Int)) = false := decide_eq_false (by omega)
    by_cases h4k : 4096 ≤ js.length
    ·have g4 : decide ((4096 : Int) ≤ (js.length : Int)) = true := decide_eq_true (by omega)
     have HE := Lib.hid (show jpE js e0 = 5 from by rw [HJP.out]; unfold jE; rw [← HKN.out, if_neg (by decide), if_neg (fun hh => hpos hh.1), if_pos h4k])
     go_wp2_with fail
     go_ret2
     rw [HE.out]
     exact jpP_no (by decide) c5
    ·have g4 : decide ((4096 : Int) ≤ (js.length : Int)) = false := decide_eq_false (by omega)
     have HE0 := Lib.hid (show jpE js e0 = 0 from by rw [HJP.out]; unfold jE; rw [← HKN.out, if_neg (by decide), if_neg (fun hh => hpos hh.1), if_neg h4k])
     have hmk := mk_en js.length (by omega)
     go_upto_region 13 with fail
     clear hmk l1
     have z5 := Below.size c5
     obtain ⟨cur, hcur⟩ : ∃ c, c = madeCells #[.int .i64 0, .int .i64 0, .int .i64 0, .int .i64 0, .int .i64 0, .int .i64 0, .string { data := #[] }, .string { data := #[] }, .slice none 0 0, .int .u64 0] ((js.length + 1) * 10) := ⟨_, rfl⟩
     rw [← hcur]
     have hcs : cur.size = (js.length + 1) * 10 := by rw [hcur, size_madeCells]
     have c6 : Below w.heap.size w (w5.alloc (.cells cur 39)) := c5.alloc z5 _
     have ke6 : Bk.Blk (w5.alloc (.cells cur 39)) w.heap.size #[.int .i64 (e0).id, .int .i64 (e0).bo, .int .i64 (e0).va, .int .i64 (e0).ki, .int .i64 (e0).au, .int .i64 (e0).pe, .string (e0).ke, .string (e0).tx, .slice (e0).la (e0).lg.length (e0).lk, .int .u64 (e0).ch] 39 := Bk.Blk.alloc ke4
     have ko6 : Bk.Blk (w5.alloc (.cells cur 39)) w5.heap.size cur 39 := Bk.Blk.nw10
     have hkl := ke4.lt
     clear hcur c5 ke4
     generalize w5.alloc (.cells cur 39) = w6 at *
     generalize w5.heap.size = g6 at *
     have hcp := cp_en a cap js w6 g6 cur (HJ.out _ c6) ko6 hcs
     go_upto_region 14 with fail
     clear hcp
     have hfl : (flat enenc js).length = js.length * 10 := flat_len enenc_len _
     have c7 : Below w.heap.size w (w6.setRow g6 (flat enenc js ++ cur.toList.drop (js.length * 10)).toArray) := Below_setRow c6 z5 _
     have ke7 : Bk.Blk (w6.setRow g6 (flat enenc js ++ cur.toList.drop (js.length * 10)).toArray) w.heap.size _ 39 := Blk_setRow_ne ke6 (by omega)
     have ko7 : Bk.Blk (w6.setRow g6 (flat enenc js ++ cur.toList.drop (js.length * 10)).toArray) g6 (flat enenc js ++ cur.toList.drop (js.length * 10)).toArray 39 := Blk_setRow_same ko6
     obtain ⟨row, hrow⟩ : ∃ r, r = flat enenc js ++ cur.toList.drop (js.length * 10) := ⟨_, rfl⟩
     rw [← hrow] at c7 ke7 ko7 ⊢
     have hrl : row.length = (js.length + 1) * 10 := by rw [hrow, List.length_append, hfl, List.length_drop, (Array.length_toList : cur.toList.length = cur.size), hcs]; omega
     have hrt : row.take (js.length * 10) = flat enenc js := by rw [hrow, ← hfl, List.take_append_of_le_length (Nat.le_refl _), List.take_length]
     have HROW := Lib.hid (And.intro hrl hrt)
     have HFIT : Hid (js.length * 10 + 10 ≤ row.toArray.size) := Lib.hid (by rw [List.size_toArray, hrl]; omega)
     clear hrow hrl hrt hfl hcs c6 ke6 ko6
     generalize w6.setRow g6 row.toArray = w7 at *
     go_wp2_with ((refine wpList_load_row rfl 39 _ rfl _ rfl _ _ _ _ (ke7) Tryz.underlying39 rfl (by kernel_rfl) ?_))
     refine (sealed_any e0 js.length ch w7 HSS.out (by omega) (HL.out _ c7) (HT.out _ c7)).mono ?_
     rintro e w8 ⟨la, lk, r, rfl, hrow, hnew, hb⟩
     have c8 := bl2 hb c7
     replace ko7 := ko7.later hb
     have hlt := ko7.lt
     clear hb c7 ke7 hrow hnew
     go_wp2_with (refine st_at rfl 39 _ _ rfl g6 (js.length * 10) _ rfl rfl _ _ ko7 (by kernel_rfl) HFIT.out (by simp [Value.oneCell']) ?_)
     go_ret2
     rw [HE0.out]
     refine ⟨_, rfl, fun _ => ⟨g6, la, lk, r, rfl, z5, ?_⟩, fun hh => absurd rfl hh, Below_setRow c8 z5 _⟩
     have hd : row.drop (js.length * 10 + 10) = [] := List.drop_eq_nil_of_le (by rw [HROW.out.1]; omega)
     refine rowb_of (t := 39) (Bk.Blk.conv (Blk_setRow_same ko7) ?_)
     rw [HROW.out.2, hd, flat_app]
     simp [flat, enenc]
  ·have HE := Lib.hid (show jpE js e0 = 12 from by rw [HJP.out]; unfold jE; rw [← HKN.out]; rfl)
   go_wp2_with fail
   go_ret2
   rw [HE.out]
   exact jpP_no (by decide) c4
 ·have g1 : (ck != 0) = true := bne_iff_ne.2 hc0
  have HE := Lib.hid (show jpE js e0 = ck from by unfold jpE; rw [← HEQ.out, if_pos hc0])
  have HC0 := Lib.hid hc0
  clear hc0
  go_wp2_with fail
  go_ret2
  rw [HE.out]
  exact jpP_no HC0.out c2
end Go.Proofs.YtjhpiclnpmdjnaaGreatDoor.Bm
