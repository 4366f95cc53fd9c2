/-
  Parts of the proof: Y12, Y13, Y14.
-/
import Derived.Test.YtjhpiclnpmdjnaaGreatDoorQ34
import Derived.Deep.CutRange
import Derived.BigQuiet
namespace Go.Proofs.YtjhpiclnpmdjnaaGreatDoor.Bm
open Go Go.RowKit
open Go.Proofs.YtjhpiclnpmdjnaaGreatDoor
open Go.Proofs.YtjhpiclnpmdjnaaGreatDoor.Kl (byt byt_get)
open Go.Proofs.YtjhpiclnpmdjnaaGreatDoor.Ln (SB tk ts z0 z1 z3 z4 z5 take_at call_at flat flat_len flat_get flat_mem RowIn OwnR Idx bl2 results2_cell Blk_setRow_same Blk_setRow_ne Below_setRow)
set_option linter.unusedSimpArgs false
set_option linter.unusedVariables false
set_option maxRecDepth 100000
set_option maxHeartbeats 16000000 in
theorem int15_any (x : It) (w : World) (h : ItIn w x) : Calls Tryz.prog 71 #[(.agg #[.slice (x).ta (x).tn (x).tk, .bool (x).mg, .int .i64 (x).ba, .int .i64 (x).mo, .bool (x).kp])] w fun r w' => IsN r ∧ Below w.heap.size w w' := by
 obtain ⟨l, hr, hn, hl⟩ := h.t
 have HT := Lib.hid (fun (W : World) (hW : Below w.heap.size w W) => (hn ▸ rchk14_any x.ta x.tk l W hl (hr.later hW) : Calls Tryz.prog 105 #[.slice x.ta x.tn x.tk] W fun e w' => IsN e ∧ Below W.heap.size W w'))
 clear h hr hn hl
 have cw : Below w.heap.size w (w.alloc (.cells #[.slice (x).ta (x).tn (x).tk, .bool (x).mg, .int .i64 (x).ba, .int .i64 (x).mo, .bool (x).kp] 69)) := Bk.be
 have kx : Bk.Blk (w.alloc (.cells #[.slice (x).ta (x).tn (x).tk, .bool (x).mg, .int .i64 (x).ba, .int .i64 (x).mo, .bool (x).kp] 69)) w.heap.size _ 69 := Bk.Blk.nw10
 go_enter Tryz.func71, Tryz.ntmps71
 go_upto_region 1 with fail
 generalize (w.alloc (.cells _ 69)) = w1 at *
 have x0 := kx.c0
 go_wp2_with fail
 refine (HT.out _ cw).mono ?_
 rintro r w2 ⟨⟨n, rfl⟩, hb⟩
 have c2 := bl2 hb cw
 replace kx := kx.later hb
 clear hb cw x0
 have x2 := kx.c2
 have x3 := kx.c3
 go_wp2_with fail
 all_goals (go_ret; exact ⟨⟨_, rfl⟩, c2⟩)
theorem call_isvr {P : Program} {w0 : World} {f : FuncId} {args : Array Value} {W : World} (hS : SB w0 W) (h : Calls P f args W fun e w' => IsVr e w' ∧ Below W.heap.size W w') : Calls P f args W fun e w' => ∃ v, e = .returned v ∧ (∃ (g : Nat) (vs : List Vr), v = .slice (some ⟨g, 0, none⟩) vs.length 7 ∧ vs.length = 7 ∧ RowIn vrenc w' (some ⟨g, 0, none⟩) vs) ∧ SB w0 w' :=
 h.mono fun _ _ ⟨⟨g, vs, he, hn, hr⟩, hb⟩ => ⟨_, he, ⟨g, vs, rfl, hn, hr⟩, bl2 hb hS⟩
set_option maxHeartbeats 16000000 in
theorem fee15_any (x : Fe) (w : World) (hn : x.nm.size ≤ maxLen) (hw : XpIn w x.wh) (ha : XpIn w x.am) : Calls Tryz.prog 72 #[.agg #[.string (x).nm, .int .i64 (x).ev, .int .i64 ((x).wh).op, .int .i64 ((x).wh).n, .string ((x).wh).s, .slice ((x).wh).a ((x).wh).l.length ((x).wh).k, .int .i64 ((x).am).op, .int .i64 ((x).am).n, .string ((x).am).s, .slice ((x).am).a ((x).am).l.length ((x).am).k]] w fun r w' => IsN r ∧ Below w.heap.size w w' := by
 have HXwh := Lib.hid (fun (W : World) (hW : Below w.heap.size w W) => hw.later hW)
 have HXam := Lib.hid (fun (W : World) (hW : Below w.heap.size w W) => ha.later hW)
 have HNM := Lib.hid hn
 clear hn hw ha
 have cw : Below w.heap.size w (w.alloc (.cells #[.string (x).nm, .int .i64 (x).ev, .int .i64 ((x).wh).op, .int .i64 ((x).wh).n, .string ((x).wh).s, .slice ((x).wh).a ((x).wh).l.length ((x).wh).k, .int .i64 ((x).am).op, .int .i64 ((x).am).n, .string ((x).am).s, .slice ((x).am).a ((x).am).l.length ((x).am).k] 141)) := Bk.be
 have kx : Bk.Blk (w.alloc (.cells #[.string (x).nm, .int .i64 (x).ev, .int .i64 ((x).wh).op, .int .i64 ((x).wh).n, .string ((x).wh).s, .slice ((x).wh).a ((x).wh).l.length ((x).wh).k, .int .i64 ((x).am).op, .int .i64 ((x).am).n, .string ((x).am).s, .slice ((x).am).a ((x).am).l.length ((x).am).k] 141)) w.heap.size _ 141 := Bk.Blk.nw10
 go_enter Tryz.func72, Tryz.ntmps72
 go_upto_region 1 with fail
 generalize (w.alloc (.cells _ 141)) = w1 at *
 have x0 := kx.c0
 have x1 := kx.c1
 go_wp2_with fail
 refine (name15_any _ _ HNM.out).mono ?_
 rintro r w' ⟨⟨q, rfl⟩, rfl⟩
 cases q
 ·go_wp2_with fail
  (go_ret; exact ⟨⟨_, rfl⟩, cw⟩)
 by_cases h1 : x.ev < 1
 ·go_wp2_with fail
  (go_ret; exact ⟨⟨_, rfl⟩, cw⟩)
 by_cases h4 : 4 < x.ev
 ·go_wp2_with fail
  (go_ret; exact ⟨⟨_, rfl⟩, cw⟩)
 go_upto_region 5 with fail
 clear x0 x1 h1 h4
 have hS0 : SB w1 w1.drew := (Below.refl _ _).drew
 refine wp_region_held_drew (S := SB w1) (by kernel_rfl) hS0 (fun hS => ?_)
 clear hS0
 refine tk 0 (by decide) ?_ hS (by kernel_rfl) (by kernel_rfl) (by kernel_rfl) (by rfl) (fun _ _ _ h => h) ?_ ?_
 rotate_left
 ·intro W hW
  clear hW
  simp only [z0, z1]
  go_simp
  first | done | with_reducible rfl
 simp only [z0, z1, Act.put, z3, z4, z5]
 refine take_at 1 (by decide) (by kernel_rfl) (by kernel_rfl) (by kernel_rfl) (fun _ _ _ h => h) hS (yieldsIf_load_mid (by rfl) 139 (.tmp 16) rfl _ _ rfl [.int .i64 (x.wh).op, .int .i64 (x.wh).n, .string (x.wh).s, .slice (x.wh).a (x.wh).l.length (x.wh).k] _ (fun W hW => rng_blk (kx.later hW) 2 [.int .i64 (x.wh).op, .int .i64 (x.wh).n, .string (x.wh).s, .slice (x.wh).a (x.wh).l.length (x.wh).k] (fun j v hv => by match j, hv with | 0, hv => exact hv | 1, hv => exact hv | 2, hv => exact hv | 3, hv => exact hv | _ + 4, hv => simp at hv)) Tryz.underlying139 rfl (by kernel_rfl)) ?_
 simp only [z0, z1, Act.put, z3, z4, z5]
 refine call_at 2 (by decide) (Pi := fun v W => ∃ (g : Nat) (vs : List Vr), v = .slice (some ⟨g, 0, none⟩) vs.length 7 ∧ vs.length = 7 ∧ RowIn vrenc W (some ⟨g, 0, none⟩) vs) (by kernel_rfl) (by rfl) (by simp only [z0, z1]; go_simp; first | done | rfl | exact ⟨rfl, rfl⟩ | exact ⟨rfl, rfl, rfl⟩ | exact ⟨rfl, rfl, rfl, rfl⟩) (call_isvr hS (vars15_any _)) ?_
 clear hS
 rintro w8 u hS ⟨g, vs, rfl, hvn, hvr⟩
 simp only [z0, z1, Act.put, z3, z4, z5]
 refine call_at 3 (by decide) (Pi := fun v _ => ∃ q : Int, v = .int .i64 q) (by kernel_rfl) (by rfl) (by simp only [z0, z1]; go_simp; first | done | rfl | exact ⟨rfl, rfl⟩ | exact ⟨rfl, rfl, rfl⟩ | exact ⟨rfl, rfl, rfl, rfl⟩) (call_isn hS (Check11_any x.wh _ _ vs 5 _ (HXwh.out _ (bl2 hS cw)) (by omega) hvr)) ?_
 clear hS
 rintro w9 u hS ⟨n, rfl⟩
 simp only [z0, z1, Act.put, z3, z4, z5]
 refine tk 4 (by decide) ?_ hS (by kernel_rfl) (by kernel_rfl) (by kernel_rfl) (by rfl) (fun _ _ _ h => h) ?_ ?_
 rotate_left
 ·intro W hW
  clear hW
  simp only [z0, z1]
  go_simp
  first | done | with_reducible rfl
 simp only [z0, z1, Act.put, z3, z4, z5]
 refine wpAnyH_done (by kernel_rfl) ?_ _
 have c9 := bl2 hS cw
 replace kx := kx.later hS
 clear hS cw hvr hvn
 by_cases h0 : n = 0
 ·have g0 : (n != 0) = false := by rw [h0]; rfl
  clear h0
  go_upto_region 8 with fail
  have hS0 : SB w9 w9.drew := (Below.refl _ _).drew
  refine wp_region_held_drew (S := SB w9) (by kernel_rfl) hS0 (fun hS => ?_)
  clear hS0
  refine tk 0 (by decide) ?_ hS (by kernel_rfl) (by kernel_rfl) (by kernel_rfl) (by rfl) (fun _ _ _ h => h) ?_ ?_
  rotate_left
  ·intro W hW
   clear hW
   simp only [z0, z1]
   go_simp
   first | done | with_reducible rfl
  simp only [z0, z1, Act.put, z3, z4, z5]
  refine take_at 1 (by decide) (by kernel_rfl) (by kernel_rfl) (by kernel_rfl) (fun _ _ _ h => h) hS (yieldsIf_load_mid (by rfl) 139 (.tmp 23) rfl _ _ rfl [.int .i64 (x.am).op, .int .i64 (x.am).n, .string (x.am).s, .slice (x.am).a (x.am).l.length (x.am).k] _ (fun W hW => rng_blk (kx.later hW) 6 [.int .i64 (x.am).op, .int .i64 (x.am).n, .string (x.am).s, .slice (x.am).a (x.am).l.length (x.am).k] (fun j v hv => by match j, hv with | 0, hv => exact hv | 1, hv => exact hv | 2, hv => exact hv | 3, hv => exact hv | _ + 4, hv => simp at hv)) Tryz.underlying139 rfl (by kernel_rfl)) ?_
  simp only [z0, z1, Act.put, z3, z4, z5]
  refine call_at 2 (by decide) (Pi := fun v W => ∃ (g : Nat) (vs : List Vr), v = .slice (some ⟨g, 0, none⟩) vs.length 7 ∧ vs.length = 7 ∧ RowIn vrenc W (some ⟨g, 0, none⟩) vs) (by kernel_rfl) (by rfl) (by simp only [z0, z1]; go_simp; first | done | rfl | exact ⟨rfl, rfl⟩ | exact ⟨rfl, rfl, rfl⟩ | exact ⟨rfl, rfl, rfl, rfl⟩) (call_isvr hS (vars15_any _)) ?_
  clear hS
  rintro w8 u hS ⟨g, vs, rfl, hvn, hvr⟩
  simp only [z0, z1, Act.put, z3, z4, z5]
  refine call_at 3 (by decide) (Pi := fun v _ => ∃ q : Int, v = .int .i64 q) (by kernel_rfl) (by rfl) (by simp only [z0, z1]; go_simp; first | done | rfl | exact ⟨rfl, rfl⟩ | exact ⟨rfl, rfl, rfl⟩ | exact ⟨rfl, rfl, rfl, rfl⟩) (call_isn hS (Check11_any x.am _ _ vs 2 _ (HXam.out _ (bl2 hS c9)) (by omega) hvr)) ?_
  clear hS
  rintro w10 u hS ⟨n2, rfl⟩
  simp only [z0, z1, Act.put, z3, z4, z5]
  refine tk 4 (by decide) ?_ hS (by kernel_rfl) (by kernel_rfl) (by kernel_rfl) (by rfl) (fun _ _ _ h => h) ?_ ?_
  rotate_left
  ·intro W hW
   clear hW
   simp only [z0, z1]
   go_simp
   first | done | with_reducible rfl
  simp only [z0, z1, Act.put, z3, z4, z5]
  refine wpAnyH_done (by kernel_rfl) ?_ _
  have c10 := bl2 hS c9
  clear hS
  go_wp2_with fail
  (go_ret; exact ⟨⟨_, rfl⟩, c10⟩)
 ·have g0 : (n != 0) = true := bne_iff_ne.2 h0
  clear h0
  go_wp2_with fail
  (go_ret; exact ⟨⟨_, rfl⟩, c9⟩)
set_option maxHeartbeats 16000000 in
theorem rule15_any (x : Ru) (w : World) (hn : x.nm.size ≤ maxLen) (ha : XpIn w x.am) : Calls Tryz.prog 73 #[.agg #[.string (x).nm, .int .i64 (x).wi, .int .i64 ((x).am).op, .int .i64 ((x).am).n, .string ((x).am).s, .slice ((x).am).a ((x).am).l.length ((x).am).k]] w fun r w' => IsN r ∧ Below w.heap.size w w' := by
 have HXam := Lib.hid (fun (W : World) (hW : Below w.heap.size w W) => ha.later hW)
 have HNM := Lib.hid hn
 clear hn ha
 have cw : Below w.heap.size w (w.alloc (.cells #[.string (x).nm, .int .i64 (x).wi, .int .i64 ((x).am).op, .int .i64 ((x).am).n, .string ((x).am).s, .slice ((x).am).a ((x).am).l.length ((x).am).k] 144)) := Bk.be
 have kx : Bk.Blk (w.alloc (.cells #[.string (x).nm, .int .i64 (x).wi, .int .i64 ((x).am).op, .int .i64 ((x).am).n, .string ((x).am).s, .slice ((x).am).a ((x).am).l.length ((x).am).k] 144)) w.heap.size _ 144 := Bk.Blk.nw10
 go_enter Tryz.func73, Tryz.ntmps73
 go_upto_region 1 with fail
 generalize (w.alloc (.cells _ 144)) = w1 at *
 have x0 := kx.c0
 have x1 := kx.c1
 go_wp2_with fail
 refine (name15_any _ _ HNM.out).mono ?_
 rintro r w' ⟨⟨q, rfl⟩, rfl⟩
 cases q
 ·go_wp2_with fail
  (go_ret; exact ⟨⟨_, rfl⟩, cw⟩)
 by_cases h1 : x.wi < 1
 ·go_wp2_with fail
  (go_ret; exact ⟨⟨_, rfl⟩, cw⟩)
 by_cases h4 : 3 < x.wi
 ·go_wp2_with fail
  (go_ret; exact ⟨⟨_, rfl⟩, cw⟩)
 go_upto_region 5 with fail
 clear x0 x1 h1 h4
 have hS0 : SB w1 w1.drew := (Below.refl _ _).drew
 refine wp_region_held_drew (S := SB w1) (by kernel_rfl) hS0 (fun hS => ?_)
 clear hS0
 refine tk 0 (by decide) ?_ hS (by kernel_rfl) (by kernel_rfl) (by kernel_rfl) (by rfl) (fun _ _ _ h => h) ?_ ?_
 rotate_left
 ·intro W hW
  clear hW
  simp only [z0, z1]
  go_simp
  first | done | with_reducible rfl
 simp only [z0, z1, Act.put, z3, z4, z5]
 refine take_at 1 (by decide) (by kernel_rfl) (by kernel_rfl) (by kernel_rfl) (fun _ _ _ h => h) hS (yieldsIf_load_mid (by rfl) 139 (.tmp 15) rfl _ _ rfl [.int .i64 (x.am).op, .int .i64 (x.am).n, .string (x.am).s, .slice (x.am).a (x.am).l.length (x.am).k] _ (fun W hW => rng_blk (kx.later hW) 2 [.int .i64 (x.am).op, .int .i64 (x.am).n, .string (x.am).s, .slice (x.am).a (x.am).l.length (x.am).k] (fun j v hv => by match j, hv with | 0, hv => exact hv | 1, hv => exact hv | 2, hv => exact hv | 3, hv => exact hv | _ + 4, hv => simp at hv)) Tryz.underlying139 rfl (by kernel_rfl)) ?_
 simp only [z0, z1, Act.put, z3, z4, z5]
 refine call_at 2 (by decide) (Pi := fun v W => ∃ (g : Nat) (vs : List Vr), v = .slice (some ⟨g, 0, none⟩) vs.length 7 ∧ vs.length = 7 ∧ RowIn vrenc W (some ⟨g, 0, none⟩) vs) (by kernel_rfl) (by rfl) (by simp only [z0, z1]; go_simp; first | done | rfl | exact ⟨rfl, rfl⟩ | exact ⟨rfl, rfl, rfl⟩ | exact ⟨rfl, rfl, rfl, rfl⟩) (call_isvr hS (vars15_any _)) ?_
 clear hS
 rintro w8 u hS ⟨g, vs, rfl, hvn, hvr⟩
 simp only [z0, z1, Act.put, z3, z4, z5]
 refine call_at 3 (by decide) (Pi := fun v _ => ∃ q : Int, v = .int .i64 q) (by kernel_rfl) (by rfl) (by simp only [z0, z1]; go_simp; first | done | rfl | exact ⟨rfl, rfl⟩ | exact ⟨rfl, rfl, rfl⟩ | exact ⟨rfl, rfl, rfl, rfl⟩) (call_isn hS (Check11_any x.am _ _ vs 2 _ (HXam.out _ (bl2 hS cw)) (by omega) hvr)) ?_
 clear hS
 rintro w9 u hS ⟨n, rfl⟩
 simp only [z0, z1, Act.put, z3, z4, z5]
 refine tk 4 (by decide) ?_ hS (by kernel_rfl) (by kernel_rfl) (by kernel_rfl) (by rfl) (fun _ _ _ h => h) ?_ ?_
 rotate_left
 ·intro W hW
  clear hW
  simp only [z0, z1]
  go_simp
  first | done | with_reducible rfl
 simp only [z0, z1, Act.put, z3, z4, z5]
 refine wpAnyH_done (by kernel_rfl) ?_ _
 have c9 := bl2 hS cw
 clear hS
 go_wp2_with fail
 (go_ret; exact ⟨⟨_, rfl⟩, c9⟩)
def CkP (w : World) (p : Pd) (n : Nat) (g : Nat) (s : Value) (W : World) : Prop := ∃ k : Nat, k + g = n ∧ s = .int .i64 k ∧ Bk.Blk W w.heap.size #[.string (p).nm, .string (p).cu, .string (p).ca, .int .i64 (p).fr, .int .i64 (p).ev, .int .i64 (p).ov, .int .i64 (p).tx, .slice ((p).ci).ta ((p).ci).tn ((p).ci).tk, .bool ((p).ci).mg, .int .i64 ((p).ci).ba, .int .i64 ((p).ci).mo, .bool ((p).ci).kp, .slice ((p).di).ta ((p).di).tn ((p).di).tk, .bool ((p).di).mg, .int .i64 ((p).di).ba, .int .i64 ((p).di).mo, .bool ((p).di).kp, .slice (p).fa (p).fn (p).fk, .slice (p).ra (p).rn (p).rk] 73 ∧ Below w.heap.size w W
set_option maxHeartbeats 64000000 in
theorem rchk15_any (p : Pd) (ua ka : Option Addr) (uc kc : Nat) (us : List Cu) (ks : List ClS) (w : World) (h : PdIn w p) (hus : us.length ≤ maxLen) (hu : RowIn cuenc w ua us) (hks : ks.length ≤ maxLen) (hk : RowIn clenc w ka ks) :
  Calls Tryz.prog 36 #[(.agg #[.string (p).nm, .string (p).cu, .string (p).ca, .int .i64 (p).fr, .int .i64 (p).ev, .int .i64 (p).ov, .int .i64 (p).tx, .slice ((p).ci).ta ((p).ci).tn ((p).ci).tk, .bool ((p).ci).mg, .int .i64 ((p).ci).ba, .int .i64 ((p).ci).mo, .bool ((p).ci).kp, .slice ((p).di).ta ((p).di).tn ((p).di).tk, .bool ((p).di).mg, .int .i64 ((p).di).ba, .int .i64 ((p).di).mo, .bool ((p).di).kp, .slice (p).fa (p).fn (p).fk, .slice (p).ra (p).rn (p).rk]), .slice ua us.length uc, .slice ka ks.length kc] w fun r w' => IsN r ∧ Below w.heap.size w w' := by
 have HMF := Lib.hid (fun (W : World) (hW : Below w.heap.size w W) => rmfind_any ua uc us p.cu W hus (hu.later hW))
 have HCF := Lib.hid (fun (W : World) (hW : Below w.heap.size w W) => rclfind_any ka kc ks p.ca W hks (hk.later hW))
 have HNM := Lib.hid h.nm
 have Hci := Lib.hid (fun (W : World) (hW : Below w.heap.size w W) => h.ci.later hW)
 have Hdi := Lib.hid (fun (W : World) (hW : Below w.heap.size w W) => h.di.later hW)
 obtain ⟨HEL, her, hen, hel, heq⟩ := h.fe
 obtain ⟨HUL, hur, hun, hul, huq⟩ := h.ru
 have HER := Lib.hid her
 have HEN := Lib.hid hen
 have HEQ := Lib.hid (fun x hx => And.intro (heq x hx).1 (And.intro (heq x hx).2.1 (heq x hx).2.2))
 have HUR := Lib.hid hur
 have HUN := Lib.hid hun
 have HUQ := Lib.hid huq
 have hm1 : p.fn ≤ 9223372036854775807 := by rw [hen]; unfold maxLen at hel; omega
 have hm2 : p.rn ≤ 9223372036854775807 := by rw [hun]; unfold maxLen at hul; omega
 clear h hus hu hks hk her hen hel heq hur hun hul huq
 have cw : Below w.heap.size w (w.alloc (.cells #[.string (p).nm, .string (p).cu, .string (p).ca, .int .i64 (p).fr, .int .i64 (p).ev, .int .i64 (p).ov, .int .i64 (p).tx, .slice ((p).ci).ta ((p).ci).tn ((p).ci).tk, .bool ((p).ci).mg, .int .i64 ((p).ci).ba, .int .i64 ((p).ci).mo, .bool ((p).ci).kp, .slice ((p).di).ta ((p).di).tn ((p).di).tk, .bool ((p).di).mg, .int .i64 ((p).di).ba, .int .i64 ((p).di).mo, .bool ((p).di).kp, .slice (p).fa (p).fn (p).fk, .slice (p).ra (p).rn (p).rk] 73)) := Bk.be
 have kp : Bk.Blk (w.alloc (.cells #[.string (p).nm, .string (p).cu, .string (p).ca, .int .i64 (p).fr, .int .i64 (p).ev, .int .i64 (p).ov, .int .i64 (p).tx, .slice ((p).ci).ta ((p).ci).tn ((p).ci).tk, .bool ((p).ci).mg, .int .i64 ((p).ci).ba, .int .i64 ((p).ci).mo, .bool ((p).ci).kp, .slice ((p).di).ta ((p).di).tn ((p).di).tk, .bool ((p).di).mg, .int .i64 ((p).di).ba, .int .i64 ((p).di).mo, .bool ((p).di).kp, .slice (p).fa (p).fn (p).fk, .slice (p).ra (p).rn (p).rk] 73)) w.heap.size _ 73 := Bk.Blk.nw10
 go_enter Tryz.func36, Tryz.ntmps36
 go_upto_region 1 with fail
 generalize (w.alloc (.cells _ 73)) = w1 at *
 have p0 := kp.c0
 have p1 := kp.c1
 go_wp2_with fail
 refine (name15_any _ _ HNM.out).mono ?_
 rintro r w' ⟨⟨q, rfl⟩, rfl⟩
 cases q
 ·go_wp2_with fail
  (go_ret; exact ⟨⟨_, rfl⟩, cw⟩)
 go_wp2_with fail
 refine (HMF.out _ cw).mono ?_
 rintro r w2 ⟨⟨x, q, rfl⟩, hb0⟩
 have hb := bl2 hb0 cw
 replace kp := kp.later hb0
 clear hb0 cw p0 p1
 go_upto_region 4 with ((refine wpList_store_row rfl 62 _ _ rfl _ _ rfl rfl _ _ (Bk.Blk.nw10) (by kernel_rfl) rfl (by simp [Value.oneCell']) ?_))
 have cx : Below w2.heap.size w2 ((w2.alloc (.cells #[.string { data := #[] }, .int .i64 0] 62)).setRow w2.heap.size #[.string (x).cd, .int .i64 (x).dg]) := Below_setRow ((Below.refl _ _).alloc (Nat.le_refl _) _) (Nat.le_refl _) _
 have kx : Bk.Blk ((w2.alloc (.cells #[.string { data := #[] }, .int .i64 0] 62)).setRow w2.heap.size #[.string (x).cd, .int .i64 (x).dg]) w2.heap.size #[.string (x).cd, .int .i64 (x).dg] 62 := Blk_setRow_same Bk.Blk.nw10
 have c3 := bl2 cx hb
 replace kp := kp.later cx
 clear cx hb
 (try simp only [Act.put])
 generalize ((w2.alloc (.cells #[.string { data := #[] }, .int .i64 0] 62)).setRow w2.heap.size #[.string (x).cd, .int .i64 (x).dg]) = w3 at *
 generalize w2.heap.size = gw3 at *
 cases q
 ·go_wp2_with fail
  (go_ret; exact ⟨⟨_, rfl⟩, c3⟩)
 have p2 := kp.c2
 go_wp2_with fail
 refine (HCF.out _ c3).mono ?_
 rintro r w4 ⟨⟨y, q, rfl⟩, hb0⟩
 have c4 := bl2 hb0 c3
 replace kp := kp.later hb0
 clear hb0 c3 p2 kx
 go_upto_region 7 with ((refine wpList_store_row rfl 55 _ _ rfl _ _ rfl rfl _ _ (Bk.Blk.nw10) (by kernel_rfl) rfl (by simp [Value.oneCell']) ?_))
 have cx : Below w4.heap.size w4 ((w4.alloc (.cells #[.string { data := #[] }, .slice none 0 0, .slice none 0 0] 55)).setRow w4.heap.size #[.string (y).c.nm, .slice (y).wa (y).c.wk.length (y).wc, .slice (y).ha (y).c.hol.length (y).hc]) := Below_setRow ((Below.refl _ _).alloc (Nat.le_refl _) _) (Nat.le_refl _) _
 have ky : Bk.Blk ((w4.alloc (.cells #[.string { data := #[] }, .slice none 0 0, .slice none 0 0] 55)).setRow w4.heap.size #[.string (y).c.nm, .slice (y).wa (y).c.wk.length (y).wc, .slice (y).ha (y).c.hol.length (y).hc]) w4.heap.size _ 55 := Blk_setRow_same Bk.Blk.nw10
 have c5 := bl2 cx c4
 replace kp := kp.later cx
 clear cx c4
 (try simp only [Act.put])
 generalize ((w4.alloc (.cells _ 55)).setRow w4.heap.size _) = w5 at *
 generalize w4.heap.size = gw5 at *
 cases q
 ·go_wp2_with fail
  (go_ret; exact ⟨⟨_, rfl⟩, c5⟩)
 go_upto_region 9 with fail
 have p4 := kp.c4
 obtain ⟨z, hz⟩ : ∃ z, z = p.ev := ⟨_, rfl⟩
 rw [← hz] at p4
 clear hz
 go_cut [11] from 18 to 139 (fun s11 wx => (∃ q : Bool, s11 = .bool q) ∧ wx = w5)
 case first =>
  go_wp2_with fail
  all_goals (go_meet; exact ⟨⟨_, rfl⟩, rfl⟩)
 case rest =>
  obtain ⟨⟨ev, rfl⟩, rfl⟩ := hcut
  clear p4 ky
  have p3 := kp.c3
  have p5 := kp.c5
  have p6 := kp.c6
  go_wp2_with fail
  refine (valid04_any _ _).mono ?_
  rintro e w' ⟨⟨q, rfl⟩, rfl⟩
  cases q
  ·go_wp2_with fail
   (go_ret; exact ⟨⟨_, rfl⟩, c5⟩)
  cases ev
  ·go_wp2_with fail
   (go_ret; exact ⟨⟨_, rfl⟩, c5⟩)
  by_cases h1 : p.ov < 0
  ·go_wp2_with fail
   (go_ret; exact ⟨⟨_, rfl⟩, c5⟩)
  by_cases h2 : 1000000000000 < p.ov
  ·go_wp2_with fail
   (go_ret; exact ⟨⟨_, rfl⟩, c5⟩)
  by_cases h3 : p.tx < 0
  ·go_wp2_with fail
   (go_ret; exact ⟨⟨_, rfl⟩, c5⟩)
  by_cases h4 : 1000000 < p.tx
  ·go_wp2_with fail
   (go_ret; exact ⟨⟨_, rfl⟩, c5⟩)
  go_upto_region 12 with fail
  clear p3 p5 p6 h1 h2 h3 h4
  have hri : wc.rangeAt w.heap.size 7 [.slice (p.ci).ta (p.ci).tn (p.ci).tk, .bool (p.ci).mg, .int .i64 (p.ci).ba, .int .i64 (p.ci).mo, .bool (p.ci).kp] := rng_blk kp 7 [.slice (p.ci).ta (p.ci).tn (p.ci).tk, .bool (p.ci).mg, .int .i64 (p.ci).ba, .int .i64 (p.ci).mo, .bool (p.ci).kp] (fun j v hv => by match j, hv with | 0, hv => exact hv | 1, hv => exact hv | 2, hv => exact hv | 3, hv => exact hv | 4, hv => exact hv | _ + 5, hv => simp at hv)
  go_wp2_with ((refine wpList_load_mid rfl 69 _ rfl _ (7) (by first | rfl | simp) ([.slice (p.ci).ta (p.ci).tn (p.ci).tk, .bool (p.ci).mg, .int .i64 (p.ci).ba, .int .i64 (p.ci).mo, .bool (p.ci).kp]) _ (hri) Tryz.underlying69 rfl (by kernel_rfl) ?_))
  refine (int15_any p.ci _ (Hci.out _ c5)).mono ?_
  rintro r w7 ⟨⟨n, rfl⟩, hb⟩
  have c7 := bl2 hb c5
  replace kp := kp.later hb
  clear hb c5 hri
  by_cases h0 : n = 0
  rotate_left
  ·have g0 : (n != 0) = true := bne_iff_ne.2 h0
   clear h0
   go_wp2_with fail
   (go_ret; exact ⟨⟨_, rfl⟩, c7⟩)
  have gci : (n != 0) = false := by rw [h0]; rfl
  clear h0
  go_upto_region 15 with fail
  clear gci
  have hri : w7.rangeAt w.heap.size 12 [.slice (p.di).ta (p.di).tn (p.di).tk, .bool (p.di).mg, .int .i64 (p.di).ba, .int .i64 (p.di).mo, .bool (p.di).kp] := rng_blk kp 12 [.slice (p.di).ta (p.di).tn (p.di).tk, .bool (p.di).mg, .int .i64 (p.di).ba, .int .i64 (p.di).mo, .bool (p.di).kp] (fun j v hv => by match j, hv with | 0, hv => exact hv | 1, hv => exact hv | 2, hv => exact hv | 3, hv => exact hv | 4, hv => exact hv | _ + 5, hv => simp at hv)
  go_wp2_with ((refine wpList_load_mid rfl 69 _ rfl _ (12) (by first | rfl | simp) ([.slice (p.di).ta (p.di).tn (p.di).tk, .bool (p.di).mg, .int .i64 (p.di).ba, .int .i64 (p.di).mo, .bool (p.di).kp]) _ (hri) Tryz.underlying69 rfl (by kernel_rfl) ?_))
  refine (int15_any p.di _ (Hdi.out _ c7)).mono ?_
  rintro r w8 ⟨⟨n, rfl⟩, hb⟩
  have c8 := bl2 hb c7
  replace kp := kp.later hb
  clear hb c7 hri
  by_cases h0 : n = 0
  rotate_left
  ·have g0 : (n != 0) = true := bne_iff_ne.2 h0
   clear h0
   go_wp2_with fail
   (go_ret; exact ⟨⟨_, rfl⟩, c8⟩)
  have gdi : (n != 0) = false := by rw [h0]; rfl
  clear h0
  have p17 := kp.c17
  have p18 := kp.c18
  by_cases h1 : 4 < p.fn
  ·go_wp2_with fail
   (go_ret; exact ⟨⟨_, rfl⟩, c8⟩)
  by_cases h2 : 4 < p.rn
  ·go_wp2_with fail
   (go_ret; exact ⟨⟨_, rfl⟩, c8⟩)
  go_wp2_with fail
  clear p17 p18 gdi
  go_loopg [14] p.fn (CkP w p p.fn)
  case atStart => exact ⟨0, by omega, rfl, kp, c8⟩
  case round =>
   clear kp c8
   obtain ⟨k, hk, rfl, kp, hbr⟩ := hrel
   have pc := kp.c17
   by_cases hlt : k < p.fn
   ·obtain ⟨b, off, ha, hc⟩ := rowat feenc_len HER.out (by have := HEN.out; omega)
    have hm1 := range_later hbr (hc k (by have := HEN.out; omega))
    have hq1 := HEQ.out HEL[k]! (by rw [getElem!_pos HEL k (by have := HEN.out; omega)]; exact List.getElem_mem _)
    clear hc
    rw [ha] at pc
    clear ha
    obtain ⟨d, hd⟩ : ∃ d, d = HEL[k]! := ⟨_, rfl⟩
    rw [← hd] at hm1 hq1
    clear hd
    have HQ1 := Lib.hid hq1
    clear hq1
    go_wp2_with ((refine wpList_load_mid rfl 141 _ rfl _ (off + k * 10) (by first | rfl | simp) ([.string (d).nm, .int .i64 (d).ev, .int .i64 ((d).wh).op, .int .i64 ((d).wh).n, .string ((d).wh).s, .slice ((d).wh).a ((d).wh).l.length ((d).wh).k, .int .i64 ((d).am).op, .int .i64 ((d).am).n, .string ((d).am).s, .slice ((d).am).a ((d).am).l.length ((d).am).k]) _ (hm1) Tryz.underlying141 rfl (by kernel_rfl) ?_))
    refine (fee15_any d _ HQ1.out.1 (HQ1.out.2.1.later hbr) (HQ1.out.2.2.later hbr)).mono ?_
    rintro r w9 ⟨⟨n, rfl⟩, hb⟩
    have c9 := bl2 hb hbr
    replace kp := kp.later hb
    clear hb hbr hm1 pc
    by_cases h0 : n = 0
    ·have g0 : (n != 0) = false := by rw [h0]; rfl
     clear h0
     go_wp2_with fail
     go_roundg (gk - 1)
     case measure => omega
     case rel => exact ⟨k + 1, by omega, by go_num, kp, c9⟩
    ·have g0 : (n != 0) = true := bne_iff_ne.2 h0
     clear h0
     go_wp2_with fail
     (go_ret; exact ⟨⟨_, rfl⟩, c9⟩)
   ·go_wp2_with fail
    clear pc hk hlt
    go_loopg [16] p.rn (CkP w p p.rn)
    case atStart => exact ⟨0, by omega, rfl, kp, hbr⟩
    case round =>
     clear kp hbr
     obtain ⟨k, hk, rfl, kp, hbr⟩ := hrel
     have pc := kp.c18
     by_cases hlt : k < p.rn
     ·obtain ⟨b, off, ha, hc⟩ := rowat ruenc_len HUR.out (by have := HUN.out; omega)
      have hm1 := range_later hbr (hc k (by have := HUN.out; omega))
      have hq1 := HUQ.out HUL[k]! (by rw [getElem!_pos HUL k (by have := HUN.out; omega)]; exact List.getElem_mem _)
      clear hc
      rw [ha] at pc
      clear ha
      obtain ⟨d, hd⟩ : ∃ d, d = HUL[k]! := ⟨_, rfl⟩
      rw [← hd] at hm1 hq1
      clear hd
      have HQ1 := Lib.hid hq1
      clear hq1
      go_wp2_with ((refine wpList_load_mid rfl 144 _ rfl _ (off + k * 6) (by first | rfl | simp) ([.string (d).nm, .int .i64 (d).wi, .int .i64 ((d).am).op, .int .i64 ((d).am).n, .string ((d).am).s, .slice ((d).am).a ((d).am).l.length ((d).am).k]) _ (hm1) Tryz.underlying144 rfl (by kernel_rfl) ?_))
      refine (rule15_any d _ HQ1.out.1 (HQ1.out.2.later hbr)).mono ?_
      rintro r w9 ⟨⟨n, rfl⟩, hb⟩
      have c9 := bl2 hb hbr
      replace kp := kp.later hb
      clear hb hbr hm1 pc
      by_cases h0 : n = 0
      ·have g0 : (n != 0) = false := by rw [h0]; rfl
       clear h0
       go_wp2_with fail
       go_roundg (gk - 1)
       case measure => omega
       case rel => exact ⟨k + 1, by omega, by go_num, kp, c9⟩
      ·have g0 : (n != 0) = true := bne_iff_ne.2 h0
       clear h0
       go_wp2_with fail
       (go_ret; exact ⟨⟨_, rfl⟩, c9⟩)
     ·go_wp2_with fail
      (go_ret; exact ⟨⟨_, rfl⟩, hbr⟩)
def PrR (w : World) (B : Bo) (n : Nat) (g : Nat) (s3 s4 : Value) (W : World) : Prop := ∃ k : Nat, k + g = n ∧ s4 = .int .i64 k ∧ (∃ e : Int, s3 = .int .i64 e) ∧ Bk.Blk W w.heap.size #[.slice (B).ua (B).us.length (B).uk, .slice (B).ka (B).kn (B).kk, .slice (B).ga (B).gs.length (B).gk, .int .i64 ((B).pl).p0, .int .i64 ((B).pl).p1, .int .i64 ((B).pl).p2, .int .i64 ((B).pl).p3, .int .i64 ((B).pl).p4, .int .i64 ((B).pl).p5, .int .i64 ((B).pl).p6, .int .i64 ((B).pl).p7, .int .i64 ((B).pl).p8, .int .i64 ((B).pl).p9, .int .i64 ((B).pl).p10, .int .i64 ((B).pl).p11, .int .i64 ((B).pl).p12, .int .i64 ((B).pl).p13, .slice (B).pa (B).ps.length (B).pk, .slice (B).aa (B).as.length (B).ak, .slice (B).ja (B).js.length (B).jk, .slice (B).ha (B).hn (B).hk, .slice (B).ba (B).bn (B).bk] 33 ∧ Below w.heap.size w W
set_option maxHeartbeats 64000000 in
theorem rprods_any (B : Bo) (w : World) (h : BkIn w B) : Calls Tryz.prog 16 #[(.agg #[.slice (B).ua (B).us.length (B).uk, .slice (B).ka (B).kn (B).kk, .slice (B).ga (B).gs.length (B).gk, .int .i64 ((B).pl).p0, .int .i64 ((B).pl).p1, .int .i64 ((B).pl).p2, .int .i64 ((B).pl).p3, .int .i64 ((B).pl).p4, .int .i64 ((B).pl).p5, .int .i64 ((B).pl).p6, .int .i64 ((B).pl).p7, .int .i64 ((B).pl).p8, .int .i64 ((B).pl).p9, .int .i64 ((B).pl).p10, .int .i64 ((B).pl).p11, .int .i64 ((B).pl).p12, .int .i64 ((B).pl).p13, .slice (B).pa (B).ps.length (B).pk, .slice (B).aa (B).as.length (B).ak, .slice (B).ja (B).js.length (B).jk, .slice (B).ha (B).hn (B).hk, .slice (B).ba (B).bn (B).bk])] w fun r w' => IsN r ∧ Below w.heap.size w w' := by
 obtain ⟨ks, hk1, hk2, hk3, -⟩ := h.k
 have HCK := Lib.hid (fun (p : Pd) (hp : PdIn w p) (W : World) (hW : Below w.heap.size w W) => (hk2 ▸ rchk15_any p B.ua B.ka B.uk B.kk B.us ks W (hp.later hW) h.u.2.1 (h.u.1.later hW) hk3 (hk1.later hW) : Calls Tryz.prog 36 #[(.agg #[.string (p).nm, .string (p).cu, .string (p).ca, .int .i64 (p).fr, .int .i64 (p).ev, .int .i64 (p).ov, .int .i64 (p).tx, .slice ((p).ci).ta ((p).ci).tn ((p).ci).tk, .bool ((p).ci).mg, .int .i64 ((p).ci).ba, .int .i64 ((p).ci).mo, .bool ((p).ci).kp, .slice ((p).di).ta ((p).di).tn ((p).di).tk, .bool ((p).di).mg, .int .i64 ((p).di).ba, .int .i64 ((p).di).mo, .bool ((p).di).kp, .slice (p).fa (p).fn (p).fk, .slice (p).ra (p).rn (p).rk]), .slice B.ua B.us.length B.uk, .slice B.ka B.kn B.kk] W fun r w' => IsN r ∧ Below W.heap.size W w'))
 have HC17 := Lib.hid (fun (W : World) (hW : Below w.heap.size w W) => rchk17_any B.pa B.pk B.ps W h.p.2.1 (h.p.1.later hW))
 have H := Lib.hid h.p.1
 have HQ := Lib.hid h.p.2.2
 have hm : B.ps.length ≤ 9223372036854775807 := by have := h.p.2.1; unfold maxLen at this; omega
 clear h hk1 hk2 hk3
 have cw : Below w.heap.size w (w.alloc (.cells #[.slice (B).ua (B).us.length (B).uk, .slice (B).ka (B).kn (B).kk, .slice (B).ga (B).gs.length (B).gk, .int .i64 ((B).pl).p0, .int .i64 ((B).pl).p1, .int .i64 ((B).pl).p2, .int .i64 ((B).pl).p3, .int .i64 ((B).pl).p4, .int .i64 ((B).pl).p5, .int .i64 ((B).pl).p6, .int .i64 ((B).pl).p7, .int .i64 ((B).pl).p8, .int .i64 ((B).pl).p9, .int .i64 ((B).pl).p10, .int .i64 ((B).pl).p11, .int .i64 ((B).pl).p12, .int .i64 ((B).pl).p13, .slice (B).pa (B).ps.length (B).pk, .slice (B).aa (B).as.length (B).ak, .slice (B).ja (B).js.length (B).jk, .slice (B).ha (B).hn (B).hk, .slice (B).ba (B).bn (B).bk] 33)) := Bk.be
 have kb : Bk.Blk (w.alloc (.cells #[.slice (B).ua (B).us.length (B).uk, .slice (B).ka (B).kn (B).kk, .slice (B).ga (B).gs.length (B).gk, .int .i64 ((B).pl).p0, .int .i64 ((B).pl).p1, .int .i64 ((B).pl).p2, .int .i64 ((B).pl).p3, .int .i64 ((B).pl).p4, .int .i64 ((B).pl).p5, .int .i64 ((B).pl).p6, .int .i64 ((B).pl).p7, .int .i64 ((B).pl).p8, .int .i64 ((B).pl).p9, .int .i64 ((B).pl).p10, .int .i64 ((B).pl).p11, .int .i64 ((B).pl).p12, .int .i64 ((B).pl).p13, .slice (B).pa (B).ps.length (B).pk, .slice (B).aa (B).as.length (B).ak, .slice (B).ja (B).js.length (B).jk, .slice (B).ha (B).hn (B).hk, .slice (B).ba (B).bn (B).bk] 33)) w.heap.size _ 33 := Bk.Blk.nw10
 go_enter Tryz.func16, Tryz.ntmps16
 go_upto_region 1 with fail
 generalize (w.alloc (.cells _ 33)) = w1 at *
 have b17 := kb.c17
 go_wp2_with fail
 refine (HC17.out _ cw).mono ?_
 rintro r w2 ⟨⟨n, rfl⟩, hb⟩
 have c2 := bl2 hb cw
 replace kb := kb.later hb
 clear hb cw b17
 go_wp2_with fail
 go_loopg [3, 4] B.ps.length (PrR w B B.ps.length)
 case atStart => exact ⟨0, by omega, rfl, ⟨_, rfl⟩, kb, c2⟩
 case round =>
  clear kb c2
  obtain ⟨k, hk, rfl, ⟨e, rfl⟩, kb, hbr⟩ := hrel
  have b17 := kb.c17
  by_cases hlt : k < B.ps.length
  ·by_cases h0 : e = 0
   ·have g0 : (e == 0) = true := by rw [h0]; rfl
    clear h0
    obtain ⟨b, off, ha, hc⟩ := rowat pdenc_len H.out (by omega)
    have hm1 := range_later hbr (hc k hlt)
    have hq1 := HQ.out B.ps[k]! (by rw [getElem!_pos B.ps k hlt]; exact List.getElem_mem hlt)
    clear hc
    obtain ⟨d, hd⟩ : ∃ d, d = B.ps[k]! := ⟨_, rfl⟩
    rw [← hd] at hm1 hq1
    clear hd
    have HQ1 := Lib.hid hq1
    have HAA := Lib.hid ha
    clear hq1 ha
    go_upto_region 5 with fail
    clear b17
    have hS0 : SB wr wr.drew := (Below.refl _ _).drew
    refine wp_region_held_drew (S := SB wr) (by kernel_rfl) hS0 (fun hS => ?_)
    clear hS0
    refine tk 0 (by decide) ?_ hS (by kernel_rfl) (by kernel_rfl) (by kernel_rfl) (by rfl) (fun _ _ _ h => h) ?_ ?_
    rotate_left
    ·intro W hW
     have q0 := (kb.later hW).c0; have q1 := (kb.later hW).c1; have q17 := (kb.later hW).c17; rw [HAA.out] at q17
     clear hW
     simp only [z0, z1]
     go_simp
     first | done | with_reducible rfl
    simp only [z0, z1, Act.put, z3, z4, z5]
    refine tk 1 (by decide) ?_ hS (by kernel_rfl) (by kernel_rfl) (by kernel_rfl) (by rfl) (fun _ _ _ h => h) ?_ ?_
    rotate_left
    ·intro W hW
     have q0 := (kb.later hW).c0; have q1 := (kb.later hW).c1; have q17 := (kb.later hW).c17; rw [HAA.out] at q17
     clear hW
     simp only [z0, z1]
     go_simp
     first | done | with_reducible rfl
    simp only [z0, z1, Act.put, z3, z4, z5]
    refine tk 2 (by decide) ?_ hS (by kernel_rfl) (by kernel_rfl) (by kernel_rfl) (by rfl) (fun _ _ _ h => h) ?_ ?_
    rotate_left
    ·intro W hW
     have q0 := (kb.later hW).c0; have q1 := (kb.later hW).c1; have q17 := (kb.later hW).c17; rw [HAA.out] at q17
     clear hW
     simp only [z0, z1]
     go_simp
     first | done | with_reducible rfl
    simp only [z0, z1, Act.put, z3, z4, z5]
    refine tk 3 (by decide) ?_ hS (by kernel_rfl) (by kernel_rfl) (by kernel_rfl) (by rfl) (fun _ _ _ h => h) ?_ ?_
    rotate_left
    ·intro W hW
     have q0 := (kb.later hW).c0; have q1 := (kb.later hW).c1; have q17 := (kb.later hW).c17; rw [HAA.out] at q17
     clear hW
     simp only [z0, z1]
     go_simp
     first | done | with_reducible rfl
    simp only [z0, z1, Act.put, z3, z4, z5]
    refine take_at 4 (by decide) (by kernel_rfl) (by kernel_rfl) (by kernel_rfl) (fun _ _ _ h => h) hS (yieldsIf_load_mid (by rfl) 73 (.tmp 22) rfl _ _ rfl [.string (d).nm, .string (d).cu, .string (d).ca, .int .i64 (d).fr, .int .i64 (d).ev, .int .i64 (d).ov, .int .i64 (d).tx, .slice ((d).ci).ta ((d).ci).tn ((d).ci).tk, .bool ((d).ci).mg, .int .i64 ((d).ci).ba, .int .i64 ((d).ci).mo, .bool ((d).ci).kp, .slice ((d).di).ta ((d).di).tn ((d).di).tk, .bool ((d).di).mg, .int .i64 ((d).di).ba, .int .i64 ((d).di).mo, .bool ((d).di).kp, .slice (d).fa (d).fn (d).fk, .slice (d).ra (d).rn (d).rk] _ (fun W hW => range_later hW hm1) Tryz.underlying73 rfl (by kernel_rfl)) ?_
    simp only [z0, z1, Act.put, z3, z4, z5]
    refine tk 5 (by decide) ?_ hS (by kernel_rfl) (by kernel_rfl) (by kernel_rfl) (by rfl) (fun _ _ _ h => h) ?_ ?_
    rotate_left
    ·intro W hW
     have q0 := (kb.later hW).c0; have q1 := (kb.later hW).c1; have q17 := (kb.later hW).c17; rw [HAA.out] at q17
     clear hW
     simp only [z0, z1]
     go_simp
     first | done | with_reducible rfl
    simp only [z0, z1, Act.put, z3, z4, z5]
    refine tk 6 (by decide) ?_ hS (by kernel_rfl) (by kernel_rfl) (by kernel_rfl) (by rfl) (fun _ _ _ h => h) ?_ ?_
    rotate_left
    ·intro W hW
     have q0 := (kb.later hW).c0; have q1 := (kb.later hW).c1; have q17 := (kb.later hW).c17; rw [HAA.out] at q17
     clear hW
     simp only [z0, z1]
     go_simp
     first | done | with_reducible rfl
    simp only [z0, z1, Act.put, z3, z4, z5]
    refine tk 7 (by decide) ?_ hS (by kernel_rfl) (by kernel_rfl) (by kernel_rfl) (by rfl) (fun _ _ _ h => h) ?_ ?_
    rotate_left
    ·intro W hW
     have q0 := (kb.later hW).c0; have q1 := (kb.later hW).c1; have q17 := (kb.later hW).c17; rw [HAA.out] at q17
     clear hW
     simp only [z0, z1]
     go_simp
     first | done | with_reducible rfl
    simp only [z0, z1, Act.put, z3, z4, z5]
    refine tk 8 (by decide) ?_ hS (by kernel_rfl) (by kernel_rfl) (by kernel_rfl) (by rfl) (fun _ _ _ h => h) ?_ ?_
    rotate_left
    ·intro W hW
     have q0 := (kb.later hW).c0; have q1 := (kb.later hW).c1; have q17 := (kb.later hW).c17; rw [HAA.out] at q17
     clear hW
     simp only [z0, z1]
     go_simp
     first | done | with_reducible rfl
    simp only [z0, z1, Act.put, z3, z4, z5]
    refine call_at 9 (by decide) (Pi := fun v _ => ∃ q : Int, v = .int .i64 q) (by kernel_rfl) (by rfl) (by simp only [z0, z1]; go_simp; first | done | rfl | exact ⟨rfl, rfl⟩ | exact ⟨rfl, rfl, rfl⟩ | exact ⟨rfl, rfl, rfl, rfl⟩) (call_isn hS (HCK.out d HQ1.out _ (bl2 hS hbr))) ?_
    clear hS
    rintro w9 u hS ⟨n, rfl⟩
    simp only [z0, z1, Act.put, z3, z4, z5]
    refine tk 10 (by decide) ?_ hS (by kernel_rfl) (by kernel_rfl) (by kernel_rfl) (by rfl) (fun _ _ _ h => h) ?_ ?_
    rotate_left
    ·intro W hW
     have q0 := (kb.later hW).c0; have q1 := (kb.later hW).c1; have q17 := (kb.later hW).c17; rw [HAA.out] at q17
     clear hW
     simp only [z0, z1]
     go_simp
     first | done | with_reducible rfl
    simp only [z0, z1, Act.put, z3, z4, z5]
    refine wpAnyH_done (by kernel_rfl) ?_ _
    have c9 := bl2 hS hbr
    replace kb := kb.later hS
    clear hS hbr hm1
    go_wp2_with fail
    go_roundg (gk - 1)
    case measure => omega
    case rel => exact ⟨k + 1, by omega, by go_num, ⟨_, rfl⟩, kb, c9⟩
   ·have g0 : (e == 0) = false := beq_eq_false_iff_ne.2 h0
    clear h0
    go_wp2_with fail
    (go_ret; exact ⟨⟨_, rfl⟩, hbr⟩)
  ·go_wp2_with fail
   (go_ret; exact ⟨⟨_, rfl⟩, hbr⟩)
theorem cutu (q : Int) (h0 : 0 ≤ q) (h1 : q ≤ 9) : ∃ c : ByteArray, c.size = 1 ∧ ∀ W : World, (Instr.slice 9 (.string ⟨#[48, 49, 50, 51, 52, 53, 54, 55, 56, 57]⟩) (some (.int .u64 q)) (some (.int .u64 (q + 1))) none).run Tryz.prog W = .ok (.string c) W := by
 refine ⟨(ByteArray.mk #[48, 49, 50, 51, 52, 53, 54, 55, 56, 57]).extract q.toNat (q + 1).toNat, ?_, fun W => run_slice_string W 9 _ .u64 .u64 q (q + 1) Tryz.underlying9 h0 (by omega) (by show q + 1 ≤ 10; omega)⟩
 rw [ByteArray.size_extract]
 show min (q + 1).toNat 10 - q.toNat = 1
 omega
theorem NatR.lt {k : Nat} {n : Int} (h : NatR k n) : n < 18446744073709551616 := by
 have h1 : (1 : Int) ≤ ((10 ^ k : Nat) : Int) := by exact_mod_cast Nat.one_le_pow k 10 (by decide)
 have h2 := Int.mul_le_mul_of_nonneg_left h1 h.1
 rw [Int.mul_one] at h2
 exact Int.lt_of_le_of_lt h2 h.2
theorem ba_nil {s : ByteArray} (h : s.size = 0) : s = ByteArray.empty := by
 obtain ⟨⟨l⟩⟩ := s
 have : l = [] := List.eq_nil_of_length_eq_zero h
 subst this
 rfl
theorem ba_ne {s : ByteArray} (h : 0 < s.size) : s.toList.isEmpty = false ∧ ¬ s.toList = [] := by
 have h2 : ¬ s.toList = [] := fun e => by
  have e3 : s.data.toList.length = s.size := Array.length_toList
  rw [← ByteArray.toList_eq, e] at e3
  exact absurd e3 (by simp; omega)
 exact ⟨by cases hq : s.toList with
  | nil => exact absurd hq h2
  | cons _ _ => rfl, h2⟩
def NtR (w : World) (g : Nat) (s0 s3 : Value) (W : World) : Prop := ∃ (k : Nat) (n : Int) (s : ByteArray), k + g = 20 ∧ s0 = .int .u64 n ∧ s3 = .string s ∧ s.size = k ∧ NatR k n ∧ w = W
def IsT (m : Nat) (e : Ending) : Prop := ∃ s : ByteArray, e = .returned (.string s) ∧ s.size ≤ m
set_option maxHeartbeats 16000000 in
theorem nat07_any (n0 : Int) (w : World) (h0 : 0 ≤ n0) (h1 : n0 < 18446744073709551616) : Calls Tryz.prog 171 #[.int .u64 n0] w fun e w' => IsT 20 e ∧ w = w' := by
 have HN0 := Lib.hid (NatR.nil h0 h1)
 clear h0 h1
 go_enter Tryz.func171, Tryz.ntmps171
 go_wp2_with fail
 go_loopg [0, 3] 20 (NtR w)
 case atStart => exact ⟨0, n0, _, by omega, rfl, rfl, rfl, HN0.out, rfl⟩
 case round =>
  clear HN0
  obtain ⟨k, n, s, hk, rfl, rfl, hs, hnr, rfl⟩ := hrel
  have hn0 := hnr.1
  by_cases hk0 : k = 0
  ·have hs0 : s.size = 0 := by omega
   obtain rfl := ba_nil hs0
   obtain ⟨c, zc, hc⟩ := cutu (n % 10) (by omega) (by omega)
   have hz : (c ++ ByteArray.empty).size = k + 1 := by rw [ByteArray.size_append]; omega
   have hsz : (c ++ ByteArray.empty).size ≤ 9223372036854775807 := by omega
   have HNR := Lib.hid hnr.step
   have hw1 : IntKind.u64.wrap (n % 10 + 1) = n % 10 + 1 := by rw [IntKind.wrap_u64]; omega
   have hlt64 := hnr.lt
   have hw2 : IntKind.u64.wrap (n.tdiv 10) = n / 10 := by rw [Int.tdiv_eq_ediv_of_nonneg hn0, IntKind.wrap_u64]; omega
   go_wp2_with fail
   go_roundg (gk - 1)
   case measure => omega
   case rel => exact ⟨k + 1, n / 10, _, by omega, by first | rfl | exact congrArg _ hw2, rfl, by first | exact hz | simpa using hz, HNR.out, rfl⟩
  ·obtain ⟨he1, he2⟩ := ba_ne (s := s) (by omega)
   by_cases hnp : 0 < n
   ·have hk19 := hnr.le hnp
    obtain ⟨c, zc, hc⟩ := cutu (n % 10) (by omega) (by omega)
    have hz : (c ++ s).size = k + 1 := by rw [ByteArray.size_append]; omega
    have hsz : (c ++ s).size ≤ 9223372036854775807 := by omega
    have HNR := Lib.hid hnr.step
    have hw1 : IntKind.u64.wrap (n % 10 + 1) = n % 10 + 1 := by rw [IntKind.wrap_u64]; omega
    have hlt64 := hnr.lt
    have hw2 : IntKind.u64.wrap (n.tdiv 10) = n / 10 := by rw [Int.tdiv_eq_ediv_of_nonneg hn0, IntKind.wrap_u64]; omega
    go_wp2_with fail
    go_roundg (gk - 1)
    case measure => omega
    case rel => exact ⟨k + 1, n / 10, _, by omega, by first | rfl | exact congrArg _ hw2, rfl, by first | exact hz | simpa using hz, HNR.out, rfl⟩
   ·go_wp2_with fail
    go_ret
    exact ⟨⟨_, rfl, by omega⟩, rfl⟩
end Go.Proofs.YtjhpiclnpmdjnaaGreatDoor.Bm
