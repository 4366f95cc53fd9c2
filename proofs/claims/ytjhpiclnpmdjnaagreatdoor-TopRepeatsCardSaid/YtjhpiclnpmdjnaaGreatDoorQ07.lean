/-
  Parts of the proof: B2, B3.
-/
import Derived.Test.YtjhpiclnpmdjnaaGreatDoorQ06
namespace Go.Proofs.YtjhpiclnpmdjnaaGreatDoor.Bm
open Go Go.RowKit
open Go.Proofs.YtjhpiclnpmdjnaaGreatDoor
open Go.Proofs.YtjhpiclnpmdjnaaGreatDoor.Ln (flat flat_len flat_get flat_mem RowIn OwnR Idx bl2 results2_cell Blk_setRow_same Blk_setRow_ne Below_setRow)
set_option linter.unusedSimpArgs false
set_option linter.unusedVariables false
set_option maxRecDepth 100000

def bstS (l : List Pd) (nm : ByteArray) (d : Int) : Nat → Option Nat
 | 0 => none
 | k + 1 => if (l[k]!.nm.toList == nm.toList) && decide (l[k]!.fr ≤ d) && (match bstS l nm d k with | none => true | some j => decide (l[j]!.fr < l[k]!.fr)) then some k else bstS l nm d k
theorem bst_lt (l : List Pd) (nm : ByteArray) (d : Int) : ∀ k j, bstS l nm d k = some j → j < k
 | 0, j, h => by cases h
 | k + 1, j, h => by
  rw [bstS] at h
  generalize ((l[k]!.nm.toList == nm.toList) && decide (l[k]!.fr ≤ d) && (match bstS l nm d k with | none => true | some j => decide (l[j]!.fr < l[k]!.fr))) = b at h
  cases b
  ·have := bst_lt l nm d k j h; omega
  ·cases h; omega
def obi : Option Nat → Int
 | none => -1
 | some j => j
def pck (l : List Pd) : Option Nat → Pd
 | none => default
 | some j => l[j]!
def atP (l : List Pd) (nm : ByteArray) (d : Int) : Pd := pck l (bstS l nm d l.length)
def atB (l : List Pd) (nm : ByteArray) (d : Int) : Bool := (bstS l nm d l.length).isSome
def AtR (w : World) (l : List Pd) (nm : ByteArray) (d : Int) (g : Nat) (s8 s13 : Value) (W : World) : Prop := ∃ k : Nat, k + g = l.length ∧ s13 = .int .i64 k ∧ s8 = .int .i64 (obi (bstS l nm d k)) ∧ Bk.Blk W w.heap.size #[.string { data := #[] }, .string { data := #[] }, .string { data := #[] }, .int .i64 0, .int .i64 0, .int .i64 0, .int .i64 0, .slice none 0 0, .bool false, .int .i64 0, .int .i64 0, .bool false, .slice none 0 0, .bool false, .int .i64 0, .int .i64 0, .bool false, .slice none 0 0, .slice none 0 0] 73 ∧ Below w.heap.size w W
theorem bst_no {l : List Pd} {nm : ByteArray} {d : Int} {k : Nat} (h : ((l[k]!.nm.toList == nm.toList) && decide (l[k]!.fr ≤ d) && (match bstS l nm d k with | none => true | some j => decide (l[j]!.fr < l[k]!.fr))) = false) : bstS l nm d (k + 1) = bstS l nm d k := by
 rw [bstS, h]; rfl
theorem bst_yes {l : List Pd} {nm : ByteArray} {d : Int} {k : Nat} (h : ((l[k]!.nm.toList == nm.toList) && decide (l[k]!.fr ≤ d) && (match bstS l nm d k with | none => true | some j => decide (l[j]!.fr < l[k]!.fr))) = true) : bstS l nm d (k + 1) = some k := by
 rw [bstS, h]; rfl
set_option maxHeartbeats 8000000 in
theorem at_any (a : Option Addr) (cap : Nat) (l : List Pd) (nm : ByteArray) (d : Int) (w : World) (hl : l.length ≤ 100000) (h : RowIn pdenc w a l) :
  Calls Tryz.prog 104 #[.slice a l.length cap, .string nm, .int .i64 d] w fun e w' => e = .returned (.tuple #[(.agg #[.string ((atP l nm d)).nm, .string ((atP l nm d)).cu, .string ((atP l nm d)).ca, .int .i64 ((atP l nm d)).fr, .int .i64 ((atP l nm d)).ev, .int .i64 ((atP l nm d)).ov, .int .i64 ((atP l nm d)).tx, .slice (((atP l nm d)).ci).ta (((atP l nm d)).ci).tn (((atP l nm d)).ci).tk, .bool (((atP l nm d)).ci).mg, .int .i64 (((atP l nm d)).ci).ba, .int .i64 (((atP l nm d)).ci).mo, .bool (((atP l nm d)).ci).kp, .slice (((atP l nm d)).di).ta (((atP l nm d)).di).tn (((atP l nm d)).di).tk, .bool (((atP l nm d)).di).mg, .int .i64 (((atP l nm d)).di).ba, .int .i64 (((atP l nm d)).di).mo, .bool (((atP l nm d)).di).kp, .slice ((atP l nm d)).fa ((atP l nm d)).fn ((atP l nm d)).fk, .slice ((atP l nm d)).ra ((atP l nm d)).rn ((atP l nm d)).rk]), .bool (atB l nm d)]) ∧ Below w.heap.size w w' := by
 have H := Lib.hid h
 have cw : Below w.heap.size w (w.alloc (.cells #[.string { data := #[] }, .string { data := #[] }, .string { data := #[] }, .int .i64 0, .int .i64 0, .int .i64 0, .int .i64 0, .slice none 0 0, .bool false, .int .i64 0, .int .i64 0, .bool false, .slice none 0 0, .bool false, .int .i64 0, .int .i64 0, .bool false, .slice none 0 0, .slice none 0 0] 73)) := Bk.be
 have kz : Bk.Blk (w.alloc (.cells #[.string { data := #[] }, .string { data := #[] }, .string { data := #[] }, .int .i64 0, .int .i64 0, .int .i64 0, .int .i64 0, .slice none 0 0, .bool false, .int .i64 0, .int .i64 0, .bool false, .slice none 0 0, .bool false, .int .i64 0, .int .i64 0, .bool false, .slice none 0 0, .slice none 0 0] 73)) w.heap.size _ 73 := Bk.Blk.nw10
 clear h
 go_enter Tryz.func104, Tryz.ntmps104
 go_upto_region 1 with fail
 generalize (w.alloc (.cells _ 73)) = w1 at *
 go_wp2_with fail
 go_loopg [8, 13] l.length (AtR w l nm d)
 case atStart => exact ⟨0, by omega, rfl, rfl, kz, cw⟩
 case round =>
  clear kz cw
  obtain ⟨k, hk, rfl, rfl, kz, hbr⟩ := hrel
  have hg := kz.lt
  by_cases hlt : k < l.length
  ·obtain ⟨b, off, rfl, hc⟩ := rowat pdenc_len H.out (by omega)
   have HC := Lib.hid hc
   have hm := range_later hbr (hc k hlt)
   clear hc
   obtain ⟨p, hp⟩ : ∃ p, p = l[k]! := ⟨_, rfl⟩
   rw [← hp] at hm
   have HP := Lib.hid hp
   clear hp
   obtain ⟨bs, hbs⟩ : ∃ bs, bs = bstS l nm d k := ⟨_, rfl⟩
   have hbl : ∀ j, bs = some j → j < k := fun j hj => bst_lt l nm d k j (hbs ▸ hj)
   rw [← hbs]
   have HB := Lib.hid hbs
   have HBL := Lib.hid hbl
   clear hbs hbl
   have g4 : decide ((k : Int) < (l.length : Int)) = true := decide_eq_true (by omega)
   go_upto_region 5 with (first | (refine wpList_load_mid rfl 73 _ rfl _ (off + k * 19) (by first | rfl | simp) ([.string (p).nm, .string (p).cu, .string (p).ca, .int .i64 (p).fr, .int .i64 (p).ev, .int .i64 (p).ov, .int .i64 (p).tx, .slice ((p).ci).ta ((p).ci).tn ((p).ci).tk, .bool ((p).ci).mg, .int .i64 ((p).ci).ba, .int .i64 ((p).ci).mo, .bool ((p).ci).kp, .slice ((p).di).ta ((p).di).tn ((p).di).tk, .bool ((p).di).mg, .int .i64 ((p).di).ba, .int .i64 ((p).di).mo, .bool ((p).di).kp, .slice (p).fa (p).fn (p).fk, .slice (p).ra (p).rn (p).rk]) _ (hm) Tryz.underlying73 rfl (by kernel_rfl) ?_) | (refine wpList_store_row rfl 73 _ _ rfl _ _ rfl rfl _ _ (Bk.Blk.nw10) (by kernel_rfl) rfl (by simp [Value.oneCell']) ?_))
   clear hm
   have kp : Bk.Blk ((wr.alloc (.cells #[.string { data := #[] }, .string { data := #[] }, .string { data := #[] }, .int .i64 0, .int .i64 0, .int .i64 0, .int .i64 0, .slice none 0 0, .bool false, .int .i64 0, .int .i64 0, .bool false, .slice none 0 0, .bool false, .int .i64 0, .int .i64 0, .bool false, .slice none 0 0, .slice none 0 0] 73)).setRow wr.heap.size #[.string (p).nm, .string (p).cu, .string (p).ca, .int .i64 (p).fr, .int .i64 (p).ev, .int .i64 (p).ov, .int .i64 (p).tx, .slice ((p).ci).ta ((p).ci).tn ((p).ci).tk, .bool ((p).ci).mg, .int .i64 ((p).ci).ba, .int .i64 ((p).ci).mo, .bool ((p).ci).kp, .slice ((p).di).ta ((p).di).tn ((p).di).tk, .bool ((p).di).mg, .int .i64 ((p).di).ba, .int .i64 ((p).di).mo, .bool ((p).di).kp, .slice (p).fa (p).fn (p).fk, .slice (p).ra (p).rn (p).rk]) wr.heap.size _ 73 := Blk_setRow_same Bk.Blk.nw10
   replace kz : Bk.Blk ((wr.alloc (.cells #[.string { data := #[] }, .string { data := #[] }, .string { data := #[] }, .int .i64 0, .int .i64 0, .int .i64 0, .int .i64 0, .slice none 0 0, .bool false, .int .i64 0, .int .i64 0, .bool false, .slice none 0 0, .bool false, .int .i64 0, .int .i64 0, .bool false, .slice none 0 0, .slice none 0 0] 73)).setRow wr.heap.size #[.string (p).nm, .string (p).cu, .string (p).ca, .int .i64 (p).fr, .int .i64 (p).ev, .int .i64 (p).ov, .int .i64 (p).tx, .slice ((p).ci).ta ((p).ci).tn ((p).ci).tk, .bool ((p).ci).mg, .int .i64 ((p).ci).ba, .int .i64 ((p).ci).mo, .bool ((p).ci).kp, .slice ((p).di).ta ((p).di).tn ((p).di).tk, .bool ((p).di).mg, .int .i64 ((p).di).ba, .int .i64 ((p).di).mo, .bool ((p).di).kp, .slice (p).fa (p).fn (p).fk, .slice (p).ra (p).rn (p).rk]) w.heap.size #[.string { data := #[] }, .string { data := #[] }, .string { data := #[] }, .int .i64 0, .int .i64 0, .int .i64 0, .int .i64 0, .slice none 0 0, .bool false, .int .i64 0, .int .i64 0, .bool false, .slice none 0 0, .bool false, .int .i64 0, .int .i64 0, .bool false, .slice none 0 0, .slice none 0 0] 73 := Blk_setRow_ne (Bk.Blk.alloc kz) (by omega)
   have c3 : Below w.heap.size w ((wr.alloc (.cells #[.string { data := #[] }, .string { data := #[] }, .string { data := #[] }, .int .i64 0, .int .i64 0, .int .i64 0, .int .i64 0, .slice none 0 0, .bool false, .int .i64 0, .int .i64 0, .bool false, .slice none 0 0, .bool false, .int .i64 0, .int .i64 0, .bool false, .slice none 0 0, .slice none 0 0] 73)).setRow wr.heap.size #[.string (p).nm, .string (p).cu, .string (p).ca, .int .i64 (p).fr, .int .i64 (p).ev, .int .i64 (p).ov, .int .i64 (p).tx, .slice ((p).ci).ta ((p).ci).tn ((p).ci).tk, .bool ((p).ci).mg, .int .i64 ((p).ci).ba, .int .i64 ((p).ci).mo, .bool ((p).ci).kp, .slice ((p).di).ta ((p).di).tn ((p).di).tk, .bool ((p).di).mg, .int .i64 ((p).di).ba, .int .i64 ((p).di).mo, .bool ((p).di).kp, .slice (p).fa (p).fn (p).fk, .slice (p).ra (p).rn (p).rk]) := Below_setRow (Below.alloc hbr hbr.size _) hbr.size _
   generalize ((wr.alloc (.cells _ 73)).setRow wr.heap.size _) = w3 at *
   generalize wr.heap.size = g3 at *
   simp only [Act.put]
   cases h1 : (p.nm.toList == nm.toList)
   ·have HN := Lib.hid h1
    have q0 : ∀ W', Reg.Cls w3 W' → W'.cell? ⟨g3, 0, none⟩ = some (.string p.nm) := fun W' hW => (kp.later hW).c0
    refine Reg.region_quiet (by kernel_rfl) (by kernel_rfl) ?_
    iterate 24 (first | go_big_quiet_skip | (go_big_quiet_want; (first | (go_big_quiet_op; go_big_quiet_on) | (apply Reg.quiet_run; (intro W hW; skip; go_simp; (first | done | rfl | exact ⟨rfl, rfl⟩ )); (simp only [Act.put, List.setIfInBounds_toArray, List.set_cons_zero, List.set_cons_succ]; go_big_quiet_on)) | (apply Reg.quiet_call; (intro W hW; go_simp; (first | done | rfl | exact ⟨rfl, rfl⟩)); (intro W hW; (first | fail)); (simp only [Act.put, List.setIfInBounds_toArray, List.set_cons_zero, List.set_cons_succ]; go_big_quiet_on)))))
    refine wpQuiet_nil ?_
    intro w4 hW
    have c4 := bl2 hW c3
    replace kz := kz.later hW
    replace kp := kp.later hW
    clear hW
    clear q0
    have HS := Lib.hid (show bstS l nm d (k + 1) = bs from by rw [bst_no (by rw [← HP.out, HN.out]; rfl), HB.out])
    go_wp2_with fail
    go_roundg (gk - 1)
    case measure => omega
    case rel => exact ⟨k + 1, by omega, by go_num, by rw [HS.out]; try rfl, kz, c4⟩
   ·by_cases h2 : p.fr ≤ d
    ·have d2 : decide (p.fr ≤ d) = true := decide_eq_true h2
     cases bs with
     | none =>
      have HN := Lib.hid (And.intro h1 d2)
      have o1 : obi none = -1 := rfl
      have q0 : ∀ W', Reg.Cls w3 W' → W'.cell? ⟨g3, 0, none⟩ = some (.string p.nm) := fun W' hW => (kp.later hW).c0
      have q3 : ∀ W', Reg.Cls w3 W' → W'.cell? ⟨g3, 3, none⟩ = some (.int .i64 p.fr) := fun W' hW => (kp.later hW).c3
      refine Reg.region_quiet (by kernel_rfl) (by kernel_rfl) ?_
      iterate 24 (first | go_big_quiet_skip | (go_big_quiet_want; (first | (go_big_quiet_op; go_big_quiet_on) | (apply Reg.quiet_run; (intro W hW; skip; go_simp; (first | done | rfl | exact ⟨rfl, rfl⟩ )); (simp only [Act.put, List.setIfInBounds_toArray, List.set_cons_zero, List.set_cons_succ]; go_big_quiet_on)) | (apply Reg.quiet_call; (intro W hW; go_simp; (first | done | rfl | exact ⟨rfl, rfl⟩)); (intro W hW; (first | fail)); (simp only [Act.put, List.setIfInBounds_toArray, List.set_cons_zero, List.set_cons_succ]; go_big_quiet_on)))))
      refine wpQuiet_nil ?_
      intro w4 hW
      have c4 := bl2 hW c3
      replace kz := kz.later hW
      replace kp := kp.later hW
      clear hW
      clear q0 q3
      have HS := Lib.hid (show bstS l nm d (k + 1) = some k from bst_yes (by rw [← HP.out, HN.out.1, HN.out.2, ← HB.out]; rfl))
      go_wp2_with fail
      go_roundg (gk - 1)
      case measure => omega
      case rel => exact ⟨k + 1, by omega, by go_num, by rw [HS.out]; try rfl, kz, c4⟩
     | some j =>
      have hj := HBL.out j rfl
      have hjl : j < l.length := by omega
      have hmj := range_later c3 (HC.out j (by omega))
      have hj3 := hmj 3 _ rfl
      clear hmj
      obtain ⟨fj, hfj⟩ : ∃ fj, fj = l[j]!.fr := ⟨_, rfl⟩
      rw [← hfj] at hj3
      have HFJ := Lib.hid hfj
      clear hfj
      rw [show obi (some j) = (j : Int) from rfl]
      have o2 : decide ((j : Int) < 0) = false := decide_eq_false (by omega)
      have q4 : ∀ W', Reg.Cls w3 W' → W'.cell? ⟨b, off + j * 19 + 3, none⟩ = some (.int .i64 fj) := fun W' hW => cell_later hW hj3
      clear hj3
      by_cases h3 : fj < p.fr
      ·have d3 : decide (fj < p.fr) = true := decide_eq_true h3
       have HN := Lib.hid (And.intro h1 (And.intro d2 d3))
       have q0 : ∀ W', Reg.Cls w3 W' → W'.cell? ⟨g3, 0, none⟩ = some (.string p.nm) := fun W' hW => (kp.later hW).c0
       have q3 : ∀ W', Reg.Cls w3 W' → W'.cell? ⟨g3, 3, none⟩ = some (.int .i64 p.fr) := fun W' hW => (kp.later hW).c3
       refine Reg.region_quiet (by kernel_rfl) (by kernel_rfl) ?_
       iterate 24 (first | go_big_quiet_skip | (go_big_quiet_want; (first | (go_big_quiet_op; go_big_quiet_on) | (apply Reg.quiet_run; (intro W hW; skip; go_simp; (first | done | rfl | exact ⟨rfl, rfl⟩ )); (simp only [Act.put, List.setIfInBounds_toArray, List.set_cons_zero, List.set_cons_succ]; go_big_quiet_on)) | (apply Reg.quiet_call; (intro W hW; go_simp; (first | done | rfl | exact ⟨rfl, rfl⟩)); (intro W hW; (first | fail)); (simp only [Act.put, List.setIfInBounds_toArray, List.set_cons_zero, List.set_cons_succ]; go_big_quiet_on)))))
       refine wpQuiet_nil ?_
       intro w4 hW
       have c4 := bl2 hW c3
       replace kz := kz.later hW
       replace kp := kp.later hW
       clear hW
       clear q0 q3 q4
       have HS := Lib.hid (show bstS l nm d (k + 1) = some k from bst_yes (by rw [← HP.out, HN.out.1, HN.out.2.1, ← HB.out]; show (true && true && decide (l[j]!.fr < p.fr)) = true; rw [← HFJ.out, HN.out.2.2]; rfl))
       go_wp2_with fail
       go_roundg (gk - 1)
       case measure => omega
       case rel => exact ⟨k + 1, by omega, by go_num, by rw [HS.out]; try rfl, kz, c4⟩
      ·have d3 : decide (fj < p.fr) = false := decide_eq_false h3
       have HN := Lib.hid (And.intro h1 (And.intro d2 d3))
       have q0 : ∀ W', Reg.Cls w3 W' → W'.cell? ⟨g3, 0, none⟩ = some (.string p.nm) := fun W' hW => (kp.later hW).c0
       have q3 : ∀ W', Reg.Cls w3 W' → W'.cell? ⟨g3, 3, none⟩ = some (.int .i64 p.fr) := fun W' hW => (kp.later hW).c3
       refine Reg.region_quiet (by kernel_rfl) (by kernel_rfl) ?_
       iterate 24 (first | go_big_quiet_skip | (go_big_quiet_want; (first | (go_big_quiet_op; go_big_quiet_on) | (apply Reg.quiet_run; (intro W hW; skip; go_simp; (first | done | rfl | exact ⟨rfl, rfl⟩ )); (simp only [Act.put, List.setIfInBounds_toArray, List.set_cons_zero, List.set_cons_succ]; go_big_quiet_on)) | (apply Reg.quiet_call; (intro W hW; go_simp; (first | done | rfl | exact ⟨rfl, rfl⟩)); (intro W hW; (first | fail)); (simp only [Act.put, List.setIfInBounds_toArray, List.set_cons_zero, List.set_cons_succ]; go_big_quiet_on)))))
       refine wpQuiet_nil ?_
       intro w4 hW
       have c4 := bl2 hW c3
       replace kz := kz.later hW
       replace kp := kp.later hW
       clear hW
       clear q0 q3 q4
       have HS := Lib.hid (show bstS l nm d (k + 1) = some j from by rw [bst_no (by rw [← HP.out, HN.out.1, HN.out.2.1, ← HB.out]; show (true && true && decide (l[j]!.fr < p.fr)) = false; rw [← HFJ.out, HN.out.2.2]; rfl), ← HB.out])
       go_wp2_with fail
       go_roundg (gk - 1)
       case measure => omega
       case rel => exact ⟨k + 1, by omega, by go_num, by rw [HS.out]; try rfl, kz, c4⟩
    ·have d2 : decide (p.fr ≤ d) = false := decide_eq_false h2
     have HN := Lib.hid (And.intro h1 d2)
     have q0 : ∀ W', Reg.Cls w3 W' → W'.cell? ⟨g3, 0, none⟩ = some (.string p.nm) := fun W' hW => (kp.later hW).c0
     have q3 : ∀ W', Reg.Cls w3 W' → W'.cell? ⟨g3, 3, none⟩ = some (.int .i64 p.fr) := fun W' hW => (kp.later hW).c3
     refine Reg.region_quiet (by kernel_rfl) (by kernel_rfl) ?_
     iterate 24 (first | go_big_quiet_skip | (go_big_quiet_want; (first | (go_big_quiet_op; go_big_quiet_on) | (apply Reg.quiet_run; (intro W hW; skip; go_simp; (first | done | rfl | exact ⟨rfl, rfl⟩ )); (simp only [Act.put, List.setIfInBounds_toArray, List.set_cons_zero, List.set_cons_succ]; go_big_quiet_on)) | (apply Reg.quiet_call; (intro W hW; go_simp; (first | done | rfl | exact ⟨rfl, rfl⟩)); (intro W hW; (first | fail)); (simp only [Act.put, List.setIfInBounds_toArray, List.set_cons_zero, List.set_cons_succ]; go_big_quiet_on)))))
     refine wpQuiet_nil ?_
     intro w4 hW
     have c4 := bl2 hW c3
     replace kz := kz.later hW
     replace kp := kp.later hW
     clear hW
     clear q0 q3
     have HS := Lib.hid (show bstS l nm d (k + 1) = bs from by rw [bst_no (by rw [← HP.out, HN.out.1, HN.out.2]; rfl), HB.out])
     go_wp2_with fail
     go_roundg (gk - 1)
     case measure => omega
     case rel => exact ⟨k + 1, by omega, by go_num, by rw [HS.out]; try rfl, kz, c4⟩
  ·have g4 : decide ((k : Int) < (l.length : Int)) = false := decide_eq_false (by omega)
   obtain rfl : k = l.length := by omega
   obtain ⟨bs, hbs⟩ : ∃ bs, bs = bstS l nm d l.length := ⟨_, rfl⟩
   have hbl : ∀ j, bs = some j → j < l.length := fun j hj => bst_lt l nm d l.length j (hbs ▸ hj)
   rw [← hbs]
   have HP : atP l nm d = pck l bs := by rw [hbs]; rfl
   have HB : atB l nm d = bs.isSome := by rw [hbs]; rfl
   have HP' := Lib.hid HP
   have HB' := Lib.hid HB
   clear HP HB hbs
   cases bs with
   | none =>
    have o1 : obi none = -1 := rfl
    go_wp2_with ((refine wpList_store_row rfl 73 _ _ rfl _ _ rfl rfl _ _ (kz) (by kernel_rfl) rfl (by simp [Value.oneCell']) ?_))
    (try simp only [Exit.inBlock, Exit.then])
    refine bodyPost_ret (results2_cell Tryz.results104 _ _ _ _ _ _ _ rfl (Blk_setRow_same kz) Tryz.underlying73 rfl (by kernel_rfl)) rfl ?_
    exact ⟨by rw [HP'.out, HB'.out]; rfl, Below_setRow hbr (Nat.le_refl _) _⟩
   | some j =>
    have hj := hbl j rfl
    obtain ⟨b, off, rfl, hc⟩ := rowat pdenc_len H.out (by omega)
    have hm := range_later hbr (hc j hj)
    clear hc hbl
    obtain ⟨p, hp⟩ : ∃ p, p = l[j]! := ⟨_, rfl⟩
    rw [← hp] at hm
    have HQ := Lib.hid hp
    clear hp
    have o1 : obi (some j) = (j : Int) := rfl
    have o2 : decide ((j : Int) < 0) = false := decide_eq_false (by omega)
    go_wp2_with (first | (refine wpList_load_mid rfl 73 _ rfl _ (off + j * 19) (by first | rfl | simp) ([.string (p).nm, .string (p).cu, .string (p).ca, .int .i64 (p).fr, .int .i64 (p).ev, .int .i64 (p).ov, .int .i64 (p).tx, .slice ((p).ci).ta ((p).ci).tn ((p).ci).tk, .bool ((p).ci).mg, .int .i64 ((p).ci).ba, .int .i64 ((p).ci).mo, .bool ((p).ci).kp, .slice ((p).di).ta ((p).di).tn ((p).di).tk, .bool ((p).di).mg, .int .i64 ((p).di).ba, .int .i64 ((p).di).mo, .bool ((p).di).kp, .slice (p).fa (p).fn (p).fk, .slice (p).ra (p).rn (p).rk]) _ (hm) Tryz.underlying73 rfl (by kernel_rfl) ?_) | (refine wpList_store_row rfl 73 _ _ rfl _ _ rfl rfl _ _ (kz) (by kernel_rfl) rfl (by simp [Value.oneCell']) ?_))
    (try simp only [Exit.inBlock, Exit.then])
    refine bodyPost_ret (results2_cell Tryz.results104 _ _ _ _ _ _ _ rfl (Blk_setRow_same kz) Tryz.underlying73 rfl (by kernel_rfl)) rfl ?_
    exact ⟨by rw [HP'.out, HB'.out, show pck l (some j) = p from HQ.out.symm]; rfl, Below_setRow hbr (Nat.le_refl _) _⟩

structure BoIn (W : World) (B : Bo) : Prop where
 u : RowIn cuenc W B.ua B.us
 g : RowIn glenc W B.ga B.gs
 p : RowIn pdenc W B.pa B.ps
 a : RowIn acenc W B.aa B.as
 j : RowIn enenc W B.ja B.js
 n : B.us.length ≤ 100000 ∧ B.gs.length ≤ 100000 ∧ B.ps.length ≤ 100000 ∧ B.as.length ≤ 100000 ∧ B.js.length ≤ 100000
theorem BoIn.later {W W1 : World} {B : Bo} (hb : Below W.heap.size W W1) (h : BoIn W B) : BoIn W1 B := ⟨h.u.later hb, h.g.later hb, h.p.later hb, h.a.later hb, h.j.later hb, h.n⟩
def aF (B : Bo) (id : Int) : Ac := fst' (fun d : Ac => d.id == id) B.as
def aO (B : Bo) (id : Int) : Bool := fok (fun d : Ac => d.id == id) B.as
def actB (B : Bo) (id day : Int) : Bool := aO B id && decide ((aF B id).op ≤ day) && ((aF B id).cl == 0 || decide (day < (aF B id).cl))
def uO (B : Bo) (s : ByteArray) : Bool := fok (fun x : Cu => x.cd.toList == s.toList) B.us
def gO (B : Bo) (id : Int) : Bool := fok (fun x : Gl => x.id == id) B.gs
def kidB (B : Bo) (id : Int) : Bool := B.gs.any fun g => g.pa == id
def ledE (B : Bo) (x : Lg) : Int := if !gO B x.ac || kidB B x.ac then 11 else if uO B x.cu then 0 else 14
def curO (B : Bo) (a : Ac) : Bool := atB B.ps a.pr a.op
def curS (B : Bo) (a : Ac) : ByteArray := (atP B.ps a.pr a.op).cu
def cusE (B : Bo) (x : Lg) (bo : Int) : Int := if aO B x.ac then (if uO B x.cu then (if curO B (aF B x.ac) && ((curS B (aF B x.ac)).toList == x.cu.toList) then (if actB B x.ac bo then 0 else 16) else 14) else 14) else 11
def legE (B : Bo) (x : Lg) (bo : Int) : Int := if x.ac < 1000 then ledE B x else cusE B x bo
set_option maxHeartbeats 8000000 in
theorem afind_any (B : Bo) (id : Int) (w : World) (hn : B.as.length ≤ 100000) (h : RowIn acenc w B.aa B.as) :
  Calls Tryz.prog 57 #[(.agg #[.slice (B).ua (B).us.length (B).uk, .slice (B).ka (B).kn (B).kk, .slice (B).ga (B).gs.length (B).gk, .int .i64 ((B).pl).p0, .int .i64 ((B).pl).p1, .int .i64 ((B).pl).p2, .int .i64 ((B).pl).p3, .int .i64 ((B).pl).p4, .int .i64 ((B).pl).p5, .int .i64 ((B).pl).p6, .int .i64 ((B).pl).p7, .int .i64 ((B).pl).p8, .int .i64 ((B).pl).p9, .int .i64 ((B).pl).p10, .int .i64 ((B).pl).p11, .int .i64 ((B).pl).p12, .int .i64 ((B).pl).p13, .slice (B).pa (B).ps.length (B).pk, .slice (B).aa (B).as.length (B).ak, .slice (B).ja (B).js.length (B).jk, .slice (B).ha (B).hn (B).hk, .slice (B).ba (B).bn (B).bk]), .int .i64 id] w fun e w' => e = .returned (.tuple #[(.agg #[.int .i64 ((aF B id)).id, .int .i64 ((aF B id)).op, .int .i64 ((aF B id)).cl, .int .i64 ((aF B id)).ex, .string ((aF B id)).ow, .string ((aF B id)).pr, .string ((aF B id)).nu]), .bool (aO B id)]) ∧ Below w.heap.size w w' := by
 have cw : Below w.heap.size w ((w.alloc (.cells #[.slice (B).ua (B).us.length (B).uk, .slice (B).ka (B).kn (B).kk, .slice (B).ga (B).gs.length (B).gk, .int .i64 ((B).pl).p0, .int .i64 ((B).pl).p1, .int .i64 ((B).pl).p2, .int .i64 ((B).pl).p3, .int .i64 ((B).pl).p4, .int .i64 ((B).pl).p5, .int .i64 ((B).pl).p6, .int .i64 ((B).pl).p7, .int .i64 ((B).pl).p8, .int .i64 ((B).pl).p9, .int .i64 ((B).pl).p10, .int .i64 ((B).pl).p11, .int .i64 ((B).pl).p12, .int .i64 ((B).pl).p13, .slice (B).pa (B).ps.length (B).pk, .slice (B).aa (B).as.length (B).ak, .slice (B).ja (B).js.length (B).jk, .slice (B).ha (B).hn (B).hk, .slice (B).ba (B).bn (B).bk] 33)).alloc (.cells #[.int .i64 0, .int .i64 0, .int .i64 0, .int .i64 0, .string { data := #[] }, .string { data := #[] }, .string { data := #[] }] 76)) := Bk.be
 have kb : Bk.Blk ((w.alloc (.cells #[.slice (B).ua (B).us.length (B).uk, .slice (B).ka (B).kn (B).kk, .slice (B).ga (B).gs.length (B).gk, .int .i64 ((B).pl).p0, .int .i64 ((B).pl).p1, .int .i64 ((B).pl).p2, .int .i64 ((B).pl).p3, .int .i64 ((B).pl).p4, .int .i64 ((B).pl).p5, .int .i64 ((B).pl).p6, .int .i64 ((B).pl).p7, .int .i64 ((B).pl).p8, .int .i64 ((B).pl).p9, .int .i64 ((B).pl).p10, .int .i64 ((B).pl).p11, .int .i64 ((B).pl).p12, .int .i64 ((B).pl).p13, .slice (B).pa (B).ps.length (B).pk, .slice (B).aa (B).as.length (B).ak, .slice (B).ja (B).js.length (B).jk, .slice (B).ha (B).hn (B).hk, .slice (B).ba (B).bn (B).bk] 33)).alloc (.cells #[.int .i64 0, .int .i64 0, .int .i64 0, .int .i64 0, .string { data := #[] }, .string { data := #[] }, .string { data := #[] }] 76)) w.heap.size _ 33 := Bk.Blk.nw20
 have kz : Bk.Blk ((w.alloc (.cells #[.slice (B).ua (B).us.length (B).uk, .slice (B).ka (B).kn (B).kk, .slice (B).ga (B).gs.length (B).gk, .int .i64 ((B).pl).p0, .int .i64 ((B).pl).p1, .int .i64 ((B).pl).p2, .int .i64 ((B).pl).p3, .int .i64 ((B).pl).p4, .int .i64 ((B).pl).p5, .int .i64 ((B).pl).p6, .int .i64 ((B).pl).p7, .int .i64 ((B).pl).p8, .int .i64 ((B).pl).p9, .int .i64 ((B).pl).p10, .int .i64 ((B).pl).p11, .int .i64 ((B).pl).p12, .int .i64 ((B).pl).p13, .slice (B).pa (B).ps.length (B).pk, .slice (B).aa (B).as.length (B).ak, .slice (B).ja (B).js.length (B).jk, .slice (B).ha (B).hn (B).hk, .slice (B).ba (B).bn (B).bk] 33)).alloc (.cells #[.int .i64 0, .int .i64 0, .int .i64 0, .int .i64 0, .string { data := #[] }, .string { data := #[] }, .string { data := #[] }] 76)) (w.heap.size + 1) _ 76 := Bk.Blk.nw21
 have hr := h.later cw
 clear h
 go_enter Tryz.func57, Tryz.ntmps57
 go_upto_region 1 with fail
 generalize ((w.alloc (.cells _ 33)).alloc (.cells _ 76)) = w1 at *
 go_wp2_with ((refine wpList_load_row rfl 33 _ rfl _ rfl _ _ _ _ (kb) Tryz.underlying33 rfl (by kernel_rfl) ?_))
 refine (aidx_any B id _ hn hr).mono ?_
 rintro e w2 ⟨r, rfl, hix, hb⟩
 replace kb := kb.later hb
 replace kz := kz.later hb
 replace hr := hr.later hb
 have c2 := bl2 hb cw
 clear hb cw
 rcases hix with ⟨rfl, hall⟩ | ⟨k, hk, rfl, h1, h2⟩
 ·have HF := Lib.hid (fst_none (p := fun d : Ac => d.id == id) (l := B.as) hall)
  clear hall
  go_wp2_with ((refine wpList_store_row rfl 76 _ _ rfl _ _ rfl rfl _ _ (kz) (by kernel_rfl) rfl (by simp [Value.oneCell']) ?_))
  (try simp only [Exit.inBlock, Exit.then])
  refine bodyPost_ret (results2_cell Tryz.results57 _ _ _ _ _ _ _ rfl (Blk_setRow_same kz) Tryz.underlying76 rfl (by kernel_rfl)) rfl ?_
  exact ⟨by unfold aF aO; rw [HF.out.1, HF.out.2]; rfl, Below_setRow c2 (by omega) _⟩
 ·have HF := Lib.hid (fst_at (p := fun d : Ac => d.id == id) hk h1 h2)
  clear h1 h2
  obtain ⟨b, off, ha, hc⟩ := rowat acenc_len hr (by omega)
  have hm := hc k hk
  clear hc hr
  obtain ⟨p, hp⟩ : ∃ p, p = B.as[k]! := ⟨_, rfl⟩
  rw [← hp] at hm
  have HQ := Lib.hid hp
  have l18 := kb.c18
  rw [ha] at l18
  have HA := Lib.hid ha
  clear hp ha
  have o2 : decide ((k : Int) < 0) = false := decide_eq_false (by omega)
  go_wp2_with (first | (refine wpList_load_mid rfl 76 _ rfl _ (off + k * 7) (by first | rfl | simp) ([.int .i64 (p).id, .int .i64 (p).op, .int .i64 (p).cl, .int .i64 (p).ex, .string (p).ow, .string (p).pr, .string (p).nu]) _ (hm) Tryz.underlying76 rfl (by kernel_rfl) ?_) | (refine wpList_store_row rfl 76 _ _ rfl _ _ rfl rfl _ _ (kz) (by kernel_rfl) rfl (by simp [Value.oneCell']) ?_))
  (try simp only [Exit.inBlock, Exit.then])
  refine bodyPost_ret (results2_cell Tryz.results57 _ _ _ _ _ _ _ rfl (Blk_setRow_same kz) Tryz.underlying76 rfl (by kernel_rfl)) rfl ?_
  exact ⟨by unfold aF aO; rw [HF.out.1, HF.out.2, ← HQ.out]; rfl, Below_setRow c2 (by omega) _⟩
set_option maxHeartbeats 8000000 in
theorem active_any (B : Bo) (id day : Int) (w : World) (hn : B.as.length ≤ 100000) (h : RowIn acenc w B.aa B.as) :
  Calls Tryz.prog 58 #[(.agg #[.slice (B).ua (B).us.length (B).uk, .slice (B).ka (B).kn (B).kk, .slice (B).ga (B).gs.length (B).gk, .int .i64 ((B).pl).p0, .int .i64 ((B).pl).p1, .int .i64 ((B).pl).p2, .int .i64 ((B).pl).p3, .int .i64 ((B).pl).p4, .int .i64 ((B).pl).p5, .int .i64 ((B).pl).p6, .int .i64 ((B).pl).p7, .int .i64 ((B).pl).p8, .int .i64 ((B).pl).p9, .int .i64 ((B).pl).p10, .int .i64 ((B).pl).p11, .int .i64 ((B).pl).p12, .int .i64 ((B).pl).p13, .slice (B).pa (B).ps.length (B).pk, .slice (B).aa (B).as.length (B).ak, .slice (B).ja (B).js.length (B).jk, .slice (B).ha (B).hn (B).hk, .slice (B).ba (B).bn (B).bk]), .int .i64 id, .int .i64 day] w fun e w' => e = .returned (.bool (actB B id day)) ∧ Below w.heap.size w w' := by
 have cw : Below w.heap.size w (w.alloc (.cells #[.slice (B).ua (B).us.length (B).uk, .slice (B).ka (B).kn (B).kk, .slice (B).ga (B).gs.length (B).gk, .int .i64 ((B).pl).p0, .int .i64 ((B).pl).p1, .int .i64 ((B).pl).p2, .int .i64 ((B).pl).p3, .int .i64 ((B).pl).p4, .int .i64 ((B).pl).p5, .int .i64 ((B).pl).p6, .int .i64 ((B).pl).p7, .int .i64 ((B).pl).p8, .int .i64 ((B).pl).p9, .int .i64 ((B).pl).p10, .int .i64 ((B).pl).p11, .int .i64 ((B).pl).p12, .int .i64 ((B).pl).p13, .slice (B).pa (B).ps.length (B).pk, .slice (B).aa (B).as.length (B).ak, .slice (B).ja (B).js.length (B).jk, .slice (B).ha (B).hn (B).hk, .slice (B).ba (B).bn (B).bk] 33)) := Bk.be
 have kb : Bk.Blk (w.alloc (.cells #[.slice (B).ua (B).us.length (B).uk, .slice (B).ka (B).kn (B).kk, .slice (B).ga (B).gs.length (B).gk, .int .i64 ((B).pl).p0, .int .i64 ((B).pl).p1, .int .i64 ((B).pl).p2, .int .i64 ((B).pl).p3, .int .i64 ((B).pl).p4, .int .i64 ((B).pl).p5, .int .i64 ((B).pl).p6, .int .i64 ((B).pl).p7, .int .i64 ((B).pl).p8, .int .i64 ((B).pl).p9, .int .i64 ((B).pl).p10, .int .i64 ((B).pl).p11, .int .i64 ((B).pl).p12, .int .i64 ((B).pl).p13, .slice (B).pa (B).ps.length (B).pk, .slice (B).aa (B).as.length (B).ak, .slice (B).ja (B).js.length (B).jk, .slice (B).ha (B).hn (B).hk, .slice (B).ba (B).bn (B).bk] 33)) w.heap.size _ 33 := Bk.Blk.nw10
 have hr := h.later cw
 clear h
 go_enter Tryz.func58, Tryz.ntmps58
 go_upto_region 1 with fail
 generalize (w.alloc (.cells _ 33)) = w1 at *
 go_wp2_with ((refine wpList_load_row rfl 33 _ rfl _ rfl _ _ _ _ (kb) Tryz.underlying33 rfl (by kernel_rfl) ?_))
 refine (afind_any B id _ hn hr).mono ?_
 rintro e w2 ⟨rfl, hb⟩
 have c2 := bl2 hb cw
 clear hb cw kb hr
 obtain ⟨a, ha⟩ : ∃ a, a = aF B id := ⟨_, rfl⟩
 rw [← ha]
 have HA := Lib.hid ha
 clear ha
 cases ho : aO B id
 ·have HO := Lib.hid ho
  clear ho
  go_wp2_with fail
  go_ret
  exact ⟨by unfold actB; rw [HO.out]; try rfl, c2.alloc (by first | exact Below.size c2 | omega) _⟩
 ·have HO := Lib.hid ho
  clear ho
  by_cases h1 : a.op ≤ day
  ·have d1 : decide (a.op ≤ day) = true := decide_eq_true h1
   cases d2 : (a.cl == 0)
   ·cases d3 : decide (day < a.cl)
    ·have HN := Lib.hid (And.intro d1 (And.intro d2 d3))
     go_wp2_with fail
     go_ret
     exact ⟨by unfold actB; rw [HO.out, ← HA.out, HN.out.1, HN.out.2.1, HN.out.2.2]; try rfl, c2.alloc (by first | exact Below.size c2 | omega) _⟩
    ·have HN := Lib.hid (And.intro d1 (And.intro d2 d3))
     go_wp2_with fail
     go_ret
     exact ⟨by unfold actB; rw [HO.out, ← HA.out, HN.out.1, HN.out.2.1, HN.out.2.2]; try rfl, c2.alloc (by first | exact Below.size c2 | omega) _⟩
   ·have HN := Lib.hid (And.intro d1 d2)
    go_wp2_with fail
    go_ret
    exact ⟨by unfold actB; rw [HO.out, ← HA.out, HN.out.1, HN.out.2]; try rfl, c2.alloc (by first | exact Below.size c2 | omega) _⟩
  ·have d1 : decide (a.op ≤ day) = false := decide_eq_false h1
   have HN := Lib.hid d1
   go_wp2_with fail
   go_ret
   exact ⟨by unfold actB; rw [HO.out, ← HA.out, HN.out]; try rfl, c2.alloc (by first | exact Below.size c2 | omega) _⟩
set_option maxHeartbeats 8000000 in
theorem cur_any (B : Bo) (a : Ac) (w : World) (hn : B.ps.length ≤ 100000) (h : RowIn pdenc w B.pa B.ps) :
  Calls Tryz.prog 90 #[(.agg #[.slice (B).ua (B).us.length (B).uk, .slice (B).ka (B).kn (B).kk, .slice (B).ga (B).gs.length (B).gk, .int .i64 ((B).pl).p0, .int .i64 ((B).pl).p1, .int .i64 ((B).pl).p2, .int .i64 ((B).pl).p3, .int .i64 ((B).pl).p4, .int .i64 ((B).pl).p5, .int .i64 ((B).pl).p6, .int .i64 ((B).pl).p7, .int .i64 ((B).pl).p8, .int .i64 ((B).pl).p9, .int .i64 ((B).pl).p10, .int .i64 ((B).pl).p11, .int .i64 ((B).pl).p12, .int .i64 ((B).pl).p13, .slice (B).pa (B).ps.length (B).pk, .slice (B).aa (B).as.length (B).ak, .slice (B).ja (B).js.length (B).jk, .slice (B).ha (B).hn (B).hk, .slice (B).ba (B).bn (B).bk]), (.agg #[.int .i64 (a).id, .int .i64 (a).op, .int .i64 (a).cl, .int .i64 (a).ex, .string (a).ow, .string (a).pr, .string (a).nu])] w fun e w' => e = .returned (.tuple #[.string (curS B a), .bool (curO B a)]) ∧ Below w.heap.size w w' := by
 have cw : Below w.heap.size w ((w.alloc (.cells #[.slice (B).ua (B).us.length (B).uk, .slice (B).ka (B).kn (B).kk, .slice (B).ga (B).gs.length (B).gk, .int .i64 ((B).pl).p0, .int .i64 ((B).pl).p1, .int .i64 ((B).pl).p2, .int .i64 ((B).pl).p3, .int .i64 ((B).pl).p4, .int .i64 ((B).pl).p5, .int .i64 ((B).pl).p6, .int .i64 ((B).pl).p7, .int .i64 ((B).pl).p8, .int .i64 ((B).pl).p9, .int .i64 ((B).pl).p10, .int .i64 ((B).pl).p11, .int .i64 ((B).pl).p12, .int .i64 ((B).pl).p13, .slice (B).pa (B).ps.length (B).pk, .slice (B).aa (B).as.length (B).ak, .slice (B).ja (B).js.length (B).jk, .slice (B).ha (B).hn (B).hk, .slice (B).ba (B).bn (B).bk] 33)).alloc (.cells #[.int .i64 (a).id, .int .i64 (a).op, .int .i64 (a).cl, .int .i64 (a).ex, .string (a).ow, .string (a).pr, .string (a).nu] 76)) := Bk.be
 have kb : Bk.Blk ((w.alloc (.cells #[.slice (B).ua (B).us.length (B).uk, .slice (B).ka (B).kn (B).kk, .slice (B).ga (B).gs.length (B).gk, .int .i64 ((B).pl).p0, .int .i64 ((B).pl).p1, .int .i64 ((B).pl).p2, .int .i64 ((B).pl).p3, .int .i64 ((B).pl).p4, .int .i64 ((B).pl).p5, .int .i64 ((B).pl).p6, .int .i64 ((B).pl).p7, .int .i64 ((B).pl).p8, .int .i64 ((B).pl).p9, .int .i64 ((B).pl).p10, .int .i64 ((B).pl).p11, .int .i64 ((B).pl).p12, .int .i64 ((B).pl).p13, .slice (B).pa (B).ps.length (B).pk, .slice (B).aa (B).as.length (B).ak, .slice (B).ja (B).js.length (B).jk, .slice (B).ha (B).hn (B).hk, .slice (B).ba (B).bn (B).bk] 33)).alloc (.cells #[.int .i64 (a).id, .int .i64 (a).op, .int .i64 (a).cl, .int .i64 (a).ex, .string (a).ow, .string (a).pr, .string (a).nu] 76)) w.heap.size _ 33 := Bk.Blk.nw20
 have ka : Bk.Blk ((w.alloc (.cells #[.slice (B).ua (B).us.length (B).uk, .slice (B).ka (B).kn (B).kk, .slice (B).ga (B).gs.length (B).gk, .int .i64 ((B).pl).p0, .int .i64 ((B).pl).p1, .int .i64 ((B).pl).p2, .int .i64 ((B).pl).p3, .int .i64 ((B).pl).p4, .int .i64 ((B).pl).p5, .int .i64 ((B).pl).p6, .int .i64 ((B).pl).p7, .int .i64 ((B).pl).p8, .int .i64 ((B).pl).p9, .int .i64 ((B).pl).p10, .int .i64 ((B).pl).p11, .int .i64 ((B).pl).p12, .int .i64 ((B).pl).p13, .slice (B).pa (B).ps.length (B).pk, .slice (B).aa (B).as.length (B).ak, .slice (B).ja (B).js.length (B).jk, .slice (B).ha (B).hn (B).hk, .slice (B).ba (B).bn (B).bk] 33)).alloc (.cells #[.int .i64 (a).id, .int .i64 (a).op, .int .i64 (a).cl, .int .i64 (a).ex, .string (a).ow, .string (a).pr, .string (a).nu] 76)) (w.heap.size + 1) _ 76 := Bk.Blk.nw21
 have hr := h.later cw
 clear h
 go_enter Tryz.func90, Tryz.ntmps90
 go_upto_region 1 with fail
 generalize ((w.alloc (.cells _ 33)).alloc (.cells _ 76)) = w1 at *
 have l17 := kb.c17
 have a5 := ka.c5
 have a1 := ka.c1
 go_wp2_with fail
 refine (at_any B.pa B.pk B.ps a.pr a.op _ hn hr).mono ?_
 rintro e w2 ⟨rfl, hb⟩
 have c2 := bl2 hb cw
 clear hb cw kb ka hr l17 a5 a1
 obtain ⟨p, hp⟩ : ∃ p, p = atP B.ps a.pr a.op := ⟨_, rfl⟩
 obtain ⟨o, ho⟩ : ∃ o, o = atB B.ps a.pr a.op := ⟨_, rfl⟩
 rw [← hp, ← ho]
 have HP := Lib.hid hp
 have HO := Lib.hid ho
 clear hp ho
 go_upto_region 2 with ((refine wpList_store_row rfl 73 _ _ rfl _ _ rfl rfl _ _ (Bk.Blk.nw10) (by kernel_rfl) rfl (by simp [Value.oneCell']) ?_))
 have kp : Bk.Blk ((w2.alloc (.cells #[.string { data := #[] }, .string { data := #[] }, .string { data := #[] }, .int .i64 0, .int .i64 0, .int .i64 0, .int .i64 0, .slice none 0 0, .bool false, .int .i64 0, .int .i64 0, .bool false, .slice none 0 0, .bool false, .int .i64 0, .int .i64 0, .bool false, .slice none 0 0, .slice none 0 0] 73)).setRow w2.heap.size #[.string (p).nm, .string (p).cu, .string (p).ca, .int .i64 (p).fr, .int .i64 (p).ev, .int .i64 (p).ov, .int .i64 (p).tx, .slice ((p).ci).ta ((p).ci).tn ((p).ci).tk, .bool ((p).ci).mg, .int .i64 ((p).ci).ba, .int .i64 ((p).ci).mo, .bool ((p).ci).kp, .slice ((p).di).ta ((p).di).tn ((p).di).tk, .bool ((p).di).mg, .int .i64 ((p).di).ba, .int .i64 ((p).di).mo, .bool ((p).di).kp, .slice (p).fa (p).fn (p).fk, .slice (p).ra (p).rn (p).rk]) w2.heap.size _ 73 := Blk_setRow_same Bk.Blk.nw10
 have c3 : Below w.heap.size w ((w2.alloc (.cells #[.string { data := #[] }, .string { data := #[] }, .string { data := #[] }, .int .i64 0, .int .i64 0, .int .i64 0, .int .i64 0, .slice none 0 0, .bool false, .int .i64 0, .int .i64 0, .bool false, .slice none 0 0, .bool false, .int .i64 0, .int .i64 0, .bool false, .slice none 0 0, .slice none 0 0] 73)).setRow w2.heap.size #[.string (p).nm, .string (p).cu, .string (p).ca, .int .i64 (p).fr, .int .i64 (p).ev, .int .i64 (p).ov, .int .i64 (p).tx, .slice ((p).ci).ta ((p).ci).tn ((p).ci).tk, .bool ((p).ci).mg, .int .i64 ((p).ci).ba, .int .i64 ((p).ci).mo, .bool ((p).ci).kp, .slice ((p).di).ta ((p).di).tn ((p).di).tk, .bool ((p).di).mg, .int .i64 ((p).di).ba, .int .i64 ((p).di).mo, .bool ((p).di).kp, .slice (p).fa (p).fn (p).fk, .slice (p).ra (p).rn (p).rk]) := Below_setRow (c2.alloc (Below.size c2) _) (Below.size c2) _
 generalize ((w2.alloc (.cells _ 73)).setRow w2.heap.size _) = w3 at *
 have p1 := kp.c1
 (try simp only [Act.put])
 go_wp2_with fail
 go_ret2
 exact ⟨by unfold curS curO; rw [← HP.out, ← HO.out]; rfl, c3⟩
theorem any_idx' {α : Type} [Inhabited α] {p : α → Bool} {l : List α} {r : Int} (h : Idx p l r) : decide (0 ≤ r) = l.any p := by
 rcases h with ⟨rfl, h⟩ | ⟨k, hk, rfl, h1, _⟩
 ·rw [Bool.eq_iff_iff]
  simp only [decide_eq_true_eq, List.any_eq_true]
  constructor
  ·omega
  ·rintro ⟨x, hx, hp⟩
   obtain ⟨j, hj, rfl⟩ := List.getElem_of_mem hx
   have := h j hj
   rw [getElem!_pos l j hj] at this
   rw [this] at hp; cases hp
 ·rw [decide_eq_true (by omega)]
  symm
  rw [List.any_eq_true]
  rw [getElem!_pos l k hk] at h1
  exact ⟨_, List.getElem_mem hk, h1⟩
set_option maxHeartbeats 4000000 in
theorem ctG_any (g : Nat) (lb : Array Value) (p : Gl → Bool) (a : Option Addr) (cap : Nat) (cs : List Gl) (w : World) (hn : cs.length ≤ 100000) (h : RowIn glenc w a cs) (eg : ∀ args w, (callFunc g args).run Tryz.prog w = .ok (.enter g args) w) (hp : PredG g lb p w.heap.size w) :
  Calls Tryz.prog 87 #[.slice a cs.length cap, .func (.func g) #[] lb] w fun e w' => e = .returned (.bool (cs.any p)) ∧ Below w.heap.size w w' := by
 have H := Lib.hid (ixG_any g lb p a cap cs w hn h eg hp)
 clear h eg hp
 go_enter Tryz.func87, Tryz.ntmps87
 go_wp2_with fail
 refine H.out.mono ?_
 rintro e w1 ⟨r, rfl, hx, hb⟩
 have HX := Lib.hid (any_idx' hx)
 clear hx
 go_wp2_with fail
 go_ret
 exact ⟨by rw [← HX.out]; rfl, hb⟩
set_option maxHeartbeats 8000000 in
theorem ledger_any (B : Bo) (x : Lg) (w : World) (h : BoIn w B) :
  Calls Tryz.prog 54 #[(.agg #[.slice (B).ua (B).us.length (B).uk, .slice (B).ka (B).kn (B).kk, .slice (B).ga (B).gs.length (B).gk, .int .i64 ((B).pl).p0, .int .i64 ((B).pl).p1, .int .i64 ((B).pl).p2, .int .i64 ((B).pl).p3, .int .i64 ((B).pl).p4, .int .i64 ((B).pl).p5, .int .i64 ((B).pl).p6, .int .i64 ((B).pl).p7, .int .i64 ((B).pl).p8, .int .i64 ((B).pl).p9, .int .i64 ((B).pl).p10, .int .i64 ((B).pl).p11, .int .i64 ((B).pl).p12, .int .i64 ((B).pl).p13, .slice (B).pa (B).ps.length (B).pk, .slice (B).aa (B).as.length (B).ak, .slice (B).ja (B).js.length (B).jk, .slice (B).ha (B).hn (B).hk, .slice (B).ba (B).bn (B).bk]), (.agg #[.int .i64 (x).ac, .int .i64 (x).am, .string (x).cu])] w fun e w' => e = .returned (.int .i64 (ledE B x)) ∧ Below w.heap.size w w' := by
 have cw : Below w.heap.size w ((w.alloc (.cells #[.slice (B).ua (B).us.length (B).uk, .slice (B).ka (B).kn (B).kk, .slice (B).ga (B).gs.length (B).gk, .int .i64 ((B).pl).p0, .int .i64 ((B).pl).p1, .int .i64 ((B).pl).p2, .int .i64 ((B).pl).p3, .int .i64 ((B).pl).p4, .int .i64 ((B).pl).p5, .int .i64 ((B).pl).p6, .int .i64 ((B).pl).p7, .int .i64 ((B).pl).p8, .int .i64 ((B).pl).p9, .int .i64 ((B).pl).p10, .int .i64 ((B).pl).p11, .int .i64 ((B).pl).p12, .int .i64 ((B).pl).p13, .slice (B).pa (B).ps.length (B).pk, .slice (B).aa (B).as.length (B).ak, .slice (B).ja (B).js.length (B).jk, .slice (B).ha (B).hn (B).hk, .slice (B).ba (B).bn (B).bk] 33)).alloc (.cells #[.int .i64 (x).ac, .int .i64 (x).am, .string (x).cu] 50)) := Bk.be
 have kb : Bk.Blk ((w.alloc (.cells #[.slice (B).ua (B).us.length (B).uk, .slice (B).ka (B).kn (B).kk, .slice (B).ga (B).gs.length (B).gk, .int .i64 ((B).pl).p0, .int .i64 ((B).pl).p1, .int .i64 ((B).pl).p2, .int .i64 ((B).pl).p3, .int .i64 ((B).pl).p4, .int .i64 ((B).pl).p5, .int .i64 ((B).pl).p6, .int .i64 ((B).pl).p7, .int .i64 ((B).pl).p8, .int .i64 ((B).pl).p9, .int .i64 ((B).pl).p10, .int .i64 ((B).pl).p11, .int .i64 ((B).pl).p12, .int .i64 ((B).pl).p13, .slice (B).pa (B).ps.length (B).pk, .slice (B).aa (B).as.length (B).ak, .slice (B).ja (B).js.length (B).jk, .slice (B).ha (B).hn (B).hk, .slice (B).ba (B).bn (B).bk] 33)).alloc (.cells #[.int .i64 (x).ac, .int .i64 (x).am, .string (x).cu] 50)) w.heap.size _ 33 := Bk.Blk.nw20
 have kx : Bk.Blk ((w.alloc (.cells #[.slice (B).ua (B).us.length (B).uk, .slice (B).ka (B).kn (B).kk, .slice (B).ga (B).gs.length (B).gk, .int .i64 ((B).pl).p0, .int .i64 ((B).pl).p1, .int .i64 ((B).pl).p2, .int .i64 ((B).pl).p3, .int .i64 ((B).pl).p4, .int .i64 ((B).pl).p5, .int .i64 ((B).pl).p6, .int .i64 ((B).pl).p7, .int .i64 ((B).pl).p8, .int .i64 ((B).pl).p9, .int .i64 ((B).pl).p10, .int .i64 ((B).pl).p11, .int .i64 ((B).pl).p12, .int .i64 ((B).pl).p13, .slice (B).pa (B).ps.length (B).pk, .slice (B).aa (B).as.length (B).ak, .slice (B).ja (B).js.length (B).jk, .slice (B).ha (B).hn (B).hk, .slice (B).ba (B).bn (B).bk] 33)).alloc (.cells #[.int .i64 (x).ac, .int .i64 (x).am, .string (x).cu] 50)) (w.heap.size + 1) _ 50 := Bk.Blk.nw21
 have hr := h.later cw
 have HN := Lib.hid h.n
 clear h
 go_enter Tryz.func54, Tryz.ntmps54
 go_upto_region 1 with fail
 generalize ((w.alloc (.cells _ 33)).alloc (.cells _ 50)) = w1 at *
 have l2 := kb.c2
 have x0 := kx.c0
 go_wp2_with fail
 refine (cfind_any B.ga B.gk B.gs x.ac _ HN.out.2.1 hr.g).mono ?_
 rintro e w2 ⟨rfl, hb⟩
 have c2 := bl2 hb cw
 have z2 := Below.size c2
 replace kb := kb.later hb
 replace kx := kx.later hb
 replace hr := hr.later hb
 clear hb cw l2 x0
 have e1 : fok (fun g : Gl => g.id == x.ac) B.gs = gO B x.ac := rfl
 rw [e1]
 clear e1
 generalize fst' (fun g : Gl => g.id == x.ac) B.gs = gf at *
 have l2 := kb.c2
 have x0 := kx.c0
 cases ho : gO B x.ac
 ·have HO := Lib.hid ho
  clear ho
  go_wp2_with fail
  go_ret
  exact ⟨by unfold ledE; rw [HO.out]; rfl, c2.alloc z2 _⟩
 ·have HO := Lib.hid ho
  clear ho
  have cx : Below w2.heap.size w2 (w2.alloc (.cells #[.int .i64 (gf).id, .int .i64 (gf).pa, .int .i64 (gf).ki, .string (gf).nm] 64)) := Bk.be
  have c3 := bl2 cx c2
  have hr3 := hr.later cx
  have kx3 := kx.later cx
  have kb3 := kb.later cx
  go_upto_region 2 with fail
  generalize w2.alloc (.cells _ 64) = w3 at *
  clear cx hr kx kb c2 l2 x0
  have l2 := kb3.c2
  have x0 := kx3.c0
  go_wp2_with fail
  refine (ctG_any 88 #[.pointer (some ⟨w.heap.size + 1, 0, none⟩)] (fun d => d.pa == x.ac) B.ga B.gk B.gs _ HN.out.2.1 hr3.g (enters_of Tryz.func88 (by kernel_rfl) rfl) (led1_any x.ac _ _ _ kx3.lt kx3.c0)).mono ?_
  rintro e w4 ⟨rfl, hb⟩
  have c4 := bl2 hb c3
  have z4 := Below.size c4
  replace kb3 := kb3.later hb
  replace kx3 := kx3.later hb
  replace hr3 := hr3.later hb
  clear hb c3 l2 x0
  have l0 := kb3.c0
  have x2 := kx3.c2
  cases hk : (B.gs.any fun d => d.pa == x.ac)
  ·have HK := Lib.hid hk
   clear hk
   go_wp2_with fail
   refine (mfind_any B.ua B.uk B.us x.cu _ HN.out.1 hr3.u).mono ?_
   rintro e w5 ⟨rfl, hb⟩
   have c5 := bl2 hb c4
   have z5 := Below.size c5
   clear hb c4 l0 x2 kb3 kx3 hr3
   have e1 : fok (fun u : Cu => u.cd.toList == x.cu.toList) B.us = uO B x.cu := rfl
   rw [e1]
   clear e1
   generalize fst' (fun u : Cu => u.cd.toList == x.cu.toList) B.us = uf at *
   cases hu : uO B x.cu
   ·have HU := Lib.hid hu
    clear hu
    go_wp2_with fail
    go_ret
    exact ⟨by unfold ledE kidB; rw [HO.out, HK.out, HU.out]; rfl, c5.alloc z5 _⟩
   ·have HU := Lib.hid hu
    clear hu
    go_wp2_with fail
    go_ret
    exact ⟨by unfold ledE kidB; rw [HO.out, HK.out, HU.out]; rfl, c5.alloc z5 _⟩
  ·have HK := Lib.hid hk
   clear hk
   go_wp2_with fail
   go_ret
   exact ⟨by unfold ledE kidB; rw [HO.out, HK.out]; rfl, c4⟩
end Go.Proofs.YtjhpiclnpmdjnaaGreatDoor.Bm
